/- A layer of abstract values and heaps over the model; what is proved here is that its steps and contracts are sound, for every program. -/
import Derived.Test.YtcmfnmceomhgcaaGreatAb3
import Derived.WalkKit
import Derived.ProofKit
import Derived.OpenShut
import Derived.JoinedCond
import Derived.Carry
open And renaming intro → XM
set_option linter.unusedSimpArgs false
set_option linter.unusedVariables false
open Go.DataW renaming TrodAll→ZB9
open Go.Fence renaming wide→ZB1
open Go.IntKind renaming i64→Q_
open Go.Steps renaming trans→ZDf
open Go.World renaming putObj_size→ZAz,putObj_heap_same→ZA9,size_alloc→ZBh,alloc_heap_new→ZDh
open List renaming replicate→ZAJ,set_eq_of_length_le→ZDK
open Nat renaming not_lt→ZDZ
namespace Go.Ab
open Go Go.RowKit
theorem K_:type_of%@eq_true:=@eq_true
theorem g_:type_of%@List.cons_append:=@List.cons_append
theorem ZAA:type_of%@Int.tmod_eq_emod_of_nonneg:=@Int.tmod_eq_emod_of_nonneg
theorem ZAK:type_of%@List.append_nil:=@List.append_nil
theorem ZAj:type_of%@List.set_append_right:=@List.set_append_right
theorem ZBF:type_of%@Bool.true_and:=@Bool.true_and
theorem ZBN:type_of%@Int.emod_lt_of_pos:=@Int.emod_lt_of_pos
theorem ZBr:type_of%@Int.emod_nonneg:=@Int.emod_nonneg
theorem ZC0:type_of%@Nat.sub_zero:=@Nat.sub_zero
noncomputable section
theorem Fp {c:Ctx}(hr:I' c)(m:Nat)(hO:∀o∈c.H.take m,XX m o):I' ⟨c.w,c.S,c.γ,c.H.take m⟩:=by
 have TAM:∀ (i:Nat) (o:AO),(c.H.take m)[i]?=some o→c.H[i]?=some o∧i<m:=by
  intro i o ho;rw[ZAV]at ho
  split at ho
  ·exact⟨ho,by assumption⟩
  ·cases ho
 have TAU:∀ (i:Nat) (o:AO),(c.H.take m)[i]?=some o→XX m o:=fun i o ho=>hO o (ZAC ho)
 refine⟨?_,?_,?_,?_,hr.bound⟩
 ·intro id v n f ho
  have hb:=TAU _ _ ho;rcases hr.row id v n f (TAM _ _ ho).1 with h | ⟨b,sz,cs,el,g1,g2,g3,g4,g5,g6⟩
  ·exact .inl h
  ·exact .inr ⟨b,sz,cs,el,g1,g2,g3,g4,g5,fun j hj=>hb j hj c _ (g6 j hj)⟩
 ·intro id v n f ho
  have hb:=TAU _ _ ho;rcases hr.con id v n f (TAM _ _ ho).1 with h | ⟨b,sz,cs,el,fr,g1,g2,g3,g4,g5,g6⟩
  ·exact .inl h
  ·exact .inr ⟨b,sz,cs,el,fr,g1,g2,g3,g4,g5,fun j hj=>hb j hj c _ (g6 j hj)⟩
 ·intro id k g ho
  have hb:=TAU _ _ ho;obtain⟨b,sz,es,cl,g1,g2,g3,g4⟩:=hr.map id k g (TAM _ _ ho).1;exact⟨b,sz,es,cl,g1,g2,g3,g4.keys,g4.uniq,fun n a hn=>let ⟨e,he,hk,hr⟩:=g4.hit n a hn; ⟨e,he,hk,hb n a hn c _ hr⟩,g4.TB5⟩
 ·intro i i' o o' b sz sz' ho ho' g1 g2 hg hg'
  exact hr.inj _ _ _ _ _ _ _ (TAM _ _ ho).1 (TAM _ _ ho').1 g1 g2 hg hg'
theorem kE {w:World}{S:Nat→Prop}{γ γ':Nat→Option (Nat×Nat)} {H rest:List AO} (hγ:∀id,id<H.length→γ' id=γ id) (w':World) (S':Nat→Prop):HLe ⟨w,S,γ,H⟩ ⟨w',S',γ',H ++ rest⟩:=by
 intro id o ho;have ho':H[id]?=some o:=ho;have hlt:=(R_.1 ho').1;have h1:(H ++ rest)[id]?=some o:=by rw[S_ hlt];exact ho
 have hg:=hγ id hlt;cases o with
 |D_=>trivial
 |dead=>exact h1
 |row v _ _=>exact .inr ⟨v,by simp[inf,h1,AO.info],.inr ⟨rfl,hg⟩⟩
 |con v _ _=>exact .inr ⟨v,by simp[inf,h1,AO.info],.inr ⟨rfl,hg⟩⟩
 |map k g=>exact .inr ⟨⟨k,g,h1⟩,hg⟩
theorem Gh {c:Ctx}{H1 H1' rest:List AO}{v:AV}(hH:c.H=H1 ++ rest)(hr:I' c)(hlen:H1'.length=H1.length){w':World}{S':Nat→Prop}{γ':Nat→Option (Nat×Nat)} {x:Value}
  (hx:Rep ⟨w',S',γ',H1'⟩ x v) (hr':I' ⟨w',S',γ',H1'⟩) (J':Ext ⟨c.w,c.S,c.γ,H1⟩ ⟨w',S',γ',H1'⟩):∃γ2,Rep ⟨w',S',γ2,H1' ++ rest⟩ x v∧I' ⟨w',S',γ2,H1' ++ rest⟩∧Ext c ⟨w',S',γ2,H1' ++ rest⟩:=by
 have old:∀ (id:Nat) (o:AO),H1[id]?=some o→c.H[id]?=some o:=fun id o ho=>by
  rw[hH,S_ (R_.1 ho).1];exact ho
 have TCc:∀b,Ai ⟨c.w,c.S,c.γ,H1⟩ b→Ai c b:=fun b ⟨id,o,sz,ho,TAO,hg⟩=>⟨id,o,sz,old id o ho,TAO,hg⟩
 let γ2:Nat→Option (Nat×Nat):=fun id=>if id<H1.length then γ' id else c.γ id
 have g2a:∀id,id<H1.length→γ2 id=γ' id:=fun id hid=>N_ hid
 have g2b:∀id,¬id<H1.length→γ2 id=c.γ id:=fun id hid=>M_ hid
 have newAt:∀ (id:Nat) (o:AO),(H1' ++ rest)[id]?=some o→(id<H1.length∧H1'[id]?=some o)∨(¬id<H1.length∧c.H[id]?=some o):=by
  intro id o ho;by_cases hid:id<H1.length
  ·exact .inl ⟨hid,by rwa[S_ (by omega)]at ho⟩
  ·refine .inr ⟨hid,?_⟩
   rw[d_ (by omega),hlen]at ho;rw[hH,d_ (by omega)];exact ho
 have lift:∀ {u a},Rep ⟨w',S',γ',H1'⟩ u a→Rep ⟨w',S',γ2,H1' ++ rest⟩ u a:=fun hu =>
  hu.ext (fun _ h=>h) (fun _ _=>rfl) (kE (fun id hid=>g2a id (by rw[←hlen];exact hid)) _ _)
 have apart:∀ (id:Nat) (o:AO) (b sz:Nat),¬id<H1.length→c.H[id]?=some o→o.owned=true→c.γ id=some (b,sz)→¬Ai ⟨c.w,c.S,c.γ,H1⟩ b:=by
  rintro id o b sz hid ho TAO hg ⟨id',o',sz',ho',TBC,hg'⟩;have:=hr.inj id id' o o' b sz sz' ho (old id' o' ho') TAO TBC hg hg';have hlt:=(R_.1 (show H1[id']?=some o' from ho')).1;omega
 have TCm:Ext c ⟨w',S',γ2,H1' ++ rest⟩:=by
  refine⟨?_,J'.TAe,fun b hb=>(J'.TA5 b hb).imp id (Or.imp id (TCc b)),?_,fun b hlt hno=>J'.same b hlt (fun ho=>hno (TCc b ho)),J'.size,J'.os,J'.tape,J'.output⟩
  ·intro id o ho
   by_cases hid:id<H1.length
   ·have ho1:H1[id]?=some o:=by rw[hH,S_ hid]at ho;exact ho
    have h1:=J'.hle id o ho1;have J_:inf (H1' ++ rest) id=inf H1' id:=by unfold inf;rw[S_ (by omega)]
    have TAM:(H1' ++ rest)[id]?=H1'[id]?:=S_ (by omega);cases o with
    |D_=>trivial
    |dead=>show(H1' ++ rest)[id]?=_;rw[TAM];exact h1
    |row v _ _ =>
     show(H1' ++ rest)[id]?=_∨∃v',inf (H1' ++ rest) id=_∧(_∨(_∧γ2 id=_));rw[TAM,J_,g2a id hid];exact h1
    |con v _ _ =>
     show(H1' ++ rest)[id]?=_∨∃v',inf (H1' ++ rest) id=_∧(_∨(_∧γ2 id=_));rw[TAM,J_,g2a id hid];exact h1
    |map k g =>
     show(H1' ++ rest)[id]?=_∨((∃k g,(H1' ++ rest)[id]?=_)∧γ2 id=_);rw[TAM,g2a id hid];exact h1
   ·have TAM:(H1' ++ rest)[id]?=c.H[id]?:=by rw[d_ (by omega),hlen,hH,d_ (by omega)]
    have J_:inf (H1' ++ rest) id=inf c.H id:=by unfold inf;rw[TAM]
    have h1:=HLe.refl c id o ho;cases o with
    |D_=>trivial
    |dead=>show(H1' ++ rest)[id]?=_;rw[TAM];exact h1
    |row v _ _ =>
     show(H1' ++ rest)[id]?=_∨∃v',inf (H1' ++ rest) id=_∧(_∨(_∧γ2 id=_));rw[TAM,J_,g2b id hid];exact h1
    |con v _ _ =>
     show(H1' ++ rest)[id]?=_∨∃v',inf (H1' ++ rest) id=_∧(_∨(_∧γ2 id=_));rw[TAM,J_,g2b id hid];exact h1
    |map k g =>
     show(H1' ++ rest)[id]?=_∨((∃k g,(H1' ++ rest)[id]?=_)∧γ2 id=_);rw[TAM,g2b id hid];exact h1
  ·rintro b ⟨id,o,sz,ho,TAO,hg⟩
   rcases newAt id o ho with⟨hid,ho'⟩ | ⟨hid,ho'⟩
   ·exact(J'.TAx b ⟨id,o,sz,ho',TAO,(g2a id hid).symm.trans hg⟩).imp (fun h=>h) (TCc b)
   ·exact .inr ⟨id,o,sz,ho',TAO,(g2b id hid).symm.trans hg⟩
 have TEd:∀ (id:Nat) (o:AO) (b sz:Nat),¬id<H1.length→c.H[id]?=some o→o.owned=true→c.γ id=some (b,sz)→b<c.w.heap.size→¬c.S b→w'.heap[b]?=c.w.heap[b]?∧¬S' b:=by
  intro id o b sz hid ho TAO hg hlt hnS;have hno:=apart id o b sz hid ho TAO hg;refine⟨J'.same b hlt hno,fun hs=>?_⟩;rcases J'.TA5 b hs with h |h |h
  ·exact hnS h
  ·exact absurd hlt (ZDZ.2 h)
  ·exact hno h
 refine⟨γ2,lift hx,⟨?_,?_,?_,?_,hr'.bound⟩,TCm⟩
 ·intro id ver n g ho
  rcases newAt id _ ho with⟨hid,ho'⟩ | ⟨hid,ho'⟩
  ·rw[show(⟨w',S',γ2,H1' ++ rest⟩:Ctx).γ id=γ' id from g2a id hid]
   rcases hr'.row id ver n g ho' with h | ⟨b,sz,cs,el,k1,k2,k3,k4,k5,k6⟩
   ·exact .inl h
   ·exact .inr ⟨b,sz,cs,el,k1,k2,k3,k4,k5,fun j hj=>lift (k6 j hj)⟩
  ·rw[show(⟨w',S',γ2,H1' ++ rest⟩:Ctx).γ id=c.γ id from g2b id hid]
   rcases hr.row id ver n g ho' with h | ⟨b,sz,cs,el,k1,k2,k3,k4,k5,k6⟩
   ·exact .inl h
   ·obtain⟨q1,q2⟩:=TEd id _ b sz hid ho' rfl k1 (c_.1 k2).1 k5
    exact .inr ⟨b,sz,cs,el,k1,q1.trans k2,k3,k4,q2,fun j hj=>TCm.rep hr (k6 j hj)⟩
 ·intro id ver n g ho
  rcases newAt id _ ho with⟨hid,ho'⟩ | ⟨hid,ho'⟩
  ·rw[show(⟨w',S',γ2,H1' ++ rest⟩:Ctx).γ id=γ' id from g2a id hid]
   rcases hr'.con id ver n g ho' with h | ⟨b,sz,cs,el,fr,k1,k2,k3,k4,k5,k6⟩
   ·exact .inl h
   ·exact .inr ⟨b,sz,cs,el,fr,k1,k2,k3,k4,k5,fun j hj=>lift (k6 j hj)⟩
  ·rw[show(⟨w',S',γ2,H1' ++ rest⟩:Ctx).γ id=c.γ id from g2b id hid]
   rcases hr.con id ver n g ho' with h | ⟨b,sz,cs,el,fr,k1,k2,k3,k4,k5,k6⟩
   ·exact .inl h
   ·have hno:¬Ai ⟨c.w,c.S,c.γ,H1⟩ b:=fun h=>hr.TBX k5 (TCc b h)
    exact .inr ⟨b,sz,cs,el,fr,k1,(J'.same b (hr.bound b k5) hno).trans k2,k3,k4,J'.TAe b k5,fun j hj=>TCm.rep hr (k6 j hj)⟩
 ·intro id k g ho
  rcases newAt id _ ho with⟨hid,ho'⟩ | ⟨hid,ho'⟩
  ·rw[show(⟨w',S',γ2,H1' ++ rest⟩:Ctx).γ id=γ' id from g2a id hid]
   obtain⟨b,sz,es,cl,k1,k2,k3,k4⟩:=hr'.map id k g ho';exact⟨b,sz,es,cl,k1,k2,k3,k4.ext fun v a hv=>lift hv⟩
  ·rw[show(⟨w',S',γ2,H1' ++ rest⟩:Ctx).γ id=c.γ id from g2b id hid]
   obtain⟨b,sz,es,cl,k1,k2,k3,k4⟩:=hr.map id k g ho';obtain⟨q1,q2⟩:=TEd id _ b sz hid ho' rfl k1 (c_.1 k2).1 k3;exact⟨b,sz,es,cl,k1,q1.trans k2,q2,k4.ext fun v a hv=>TCm.rep hr hv⟩
 ·have mix:∀ (id id':Nat) (o o':AO) (b sz sz':Nat),id<H1.length→H1'[id]?=some o→o.owned=true→γ' id=some (b,sz)→¬id'<H1.length→c.H[id']?=some o'→o'.owned=true→c.γ id'=some (b,sz')→False:=by
   intro id id' o o' b sz sz' hid ho TAO hg TBT ho' TBC hg';have hlt:b<c.w.heap.size:=hr.TBG ⟨id',o',sz',ho',TBC,hg'⟩;rcases J'.TAx b ⟨id,o,sz,ho,TAO,hg⟩with h |h
   ·exact absurd hlt (ZDZ.2 h)
   ·exact apart id' o' b sz' TBT ho' TBC hg' h
  intro id id' o o' b sz sz' ho ho' h1 h2 hg hg';rcases newAt id o ho with⟨hid,k1⟩ | ⟨hid,k1⟩ <;> rcases newAt id' o' ho' with⟨TBT,k2⟩ | ⟨TBT,k2⟩
  ·exact hr'.inj id id' o o' b sz sz' k1 k2 h1 h2 ((g2a id hid).symm.trans hg) ((g2a id' TBT).symm.trans hg')
  ·exact(mix id id' o o' b sz sz' hid k1 h1 ((g2a id hid).symm.trans hg) TBT k2 h2 ((g2b id' TBT).symm.trans hg')).elim
  ·exact(mix id' id o' o b sz' sz TBT k2 h2 ((g2a id' TBT).symm.trans hg') hid k1 h1 ((g2b id hid).symm.trans hg)).elim
  ·exact hr.inj id id' o o' b sz sz' k1 k2 h1 h2 ((g2b id hid).symm.trans hg) ((g2b id' TBT).symm.trans hg')
theorem G'.frame {P:Program}{f:FuncId}{args:List AV}{H1 H1':List AO}{v:AV}(h:G' P f args H1 v H1')(hlen:H1'.length=H1.length)(hb:∀ a∈args,J9 H1.length a)(hO:∀ o∈H1,XX H1.length o)(rest:List AO) :
  G' P f args (H1 ++ rest) v (H1' ++ rest):=by
 refine⟨h.1,fun c vs hH hr hv=>?_⟩;have TA4:c.H.take H1.length=H1:=by rw[hH];simp
 have hr1:I' ⟨c.w,c.S,c.γ,H1⟩:=by
  have:=Fp hr H1.length (by rw[TA4];exact hO);rwa[TA4]at this
 have hv1:TAF ⟨c.w,c.S,c.γ,H1⟩ vs args:=⟨hv.1,fun j hj=>by
  have TAU:args.getD j .any∈args:=by rw[K',U_ hj];exact ZAP _
  have:=hb _ TAU c _ (hv.2 j hj);rwa[TA4]at this⟩
 refine(h.2 ⟨c.w,c.S,c.γ,H1⟩ vs rfl hr1 hv1).mono ?_;rintro e w' ⟨x,S',γ',rfl,hx,hr',J'⟩;obtain⟨γ2,k1,k2,k3⟩:=Gh hH hr hlen hx hr' J';exact⟨x,S',γ2,rfl,k1,k2,k3⟩
def I6 (P:Program)(fn:Func)(str hcs:List Nat)(m:Nat)(r:AV)(H':List AO):Env:=⟨P,fn,str,hcs,m,none,[],none,fun v H=>v=r∧H.take m=H'⟩
@[simp] theorem TFT (P:Program)(fn:Func)(str hcs:List Nat)(m:Nat)(r:AV)(H:List AO)(s:AS):TD (I6 P fn str hcs m r H) s=Al P fn s:=rfl
theorem G'.TAo {P:Program}{f:FuncId}{fn:Func}{body:Code}(he:Cf P f)(hf:P.funcs[f]?=some fn)(hb:fn.body=some body)(hm:P.follows .mixedOrders=true){args:List AV}{H H':List AO}{r:AV}
  (n0:Nat) (hid str hcs:List Nat) (hok:QO fn.ntmps str hcs body=true) (hlen:args.length≤fn.ntmps) (hr:J9 H.length r) (hO:∀o∈H',XX H.length o)
  (h:Run (I6 P fn str hcs H.length r H') [.code body] (AS.start n0 hid args H)):G' P f args H r H':=by
 refine⟨he,?_⟩;rintro c vs rfl hrc hv;refine BW (X:=I6 P fn str hcs c.H.length r H') hf hb hm hok rfl hrc hv hlen h (fun p hp=>absurd hp (V')) ?_;rintro v r' ⟨w',S',γ',H''⟩ h1 h2 h3 ⟨rfl,rfl⟩;have hst:St 1 ⟨w',S',γ',H''⟩ { tmps:=#[v],defers:=[] } ⟨0,[],[],[(0,r')],H''⟩:=by
  refine⟨rfl,rfl,fun i=>?_,rfl,h2⟩;unfold AS.get;simp only[ZAG,if_false,XJ]
  split
  ·rename_i hi;subst hi;exact h1
  ·exact .any _
 obtain⟨c',hw,hx,TAt⟩:=XD (b:=c.H.length) (m:=c.H.length) (s:=⟨0,[],[],[(0,r')],H''⟩) (s':=⟨0,[],[],[(0,r')],H''.take c.H.length⟩) (N' _) rfl trivial ⟨.inr rfl,trivial⟩ rfl (by simp) (by simp;exact hr) hO _ _ _ hst;have hv':=TAt.TAP 0;have hH:=TAt.heap;have H_:=TAt.H_;obtain⟨w2,S2,γ2,H2⟩:=c';cases hw;cases hH;refine⟨v,S2,γ2,rfl,by simpa [AS.get,XJ]using hv',H_,?_⟩;exact(h3.trans hx).TCI (N' _)
def Ko (H:List AO)(a b:AV):Prop:=∀ (c:Ctx) (v:Value),c.H=H→I' c→Rep c v a→Rep c v b
theorem XC (H:List AO)(a:AV):Ko H a a:=fun _ _ _ _ h=>h
theorem Wp {H:List AO}{id ver k:Nat}{f g:Nat→AV}(ho:H[id]?=some (.con ver k f)) (hk:0<k) (hg:∀j,j<k→Ko H (f j) (g j)):Ko H (.ref id ver 0) (.ptr k g 0):=by
 rintro c v rfl hr h;have J_:inf c.H id=some ver:=by simp[inf,ho,AO.info]
 cases h with
 |ref _ _ _ b sz hi hgm =>
  rcases hr.con id ver k f ho with⟨h1,h2⟩ | ⟨b',sz',cs,el,fr,h1,h2,h3,h4,h5,h6⟩
  ·omega
  ·rw[h1]at hgm;cases hgm
   have:=Rep.ptr (c:=c) b 0 k 0 g (fun j=>cs.getD j undef) h5 (fun j hj=>ZL h2 (by omega) j hj) (fun j hj=>hg j hj c _ rfl hr (h6 j hj));rwa[x_]at this
 |TAQ _ _ _ a hs =>
  exfalso;rcases hs with⟨v',hi,hlt⟩ |hd
  ·rw[J_]at hi;cases hi;omega
  ·simp[inf,hd,AO.info]at J_
theorem Qh {m:Nat}{s:AS}(id:Nat){ver n:Nat}{f:Nat→AV}(g:Nat→AV)(ho:s.h[id]?=some (.row ver n f)) (hfg:∀j,j<n→Ko s.h (f j) (g j)):Sub m s { s with h:=s.h.set id (.row ver n g) }:=by
 intro N c a hst;have hH:=hst.heap;rw[←hH]at ho hfg;have hlt:=(R_.1 ho).1;have hat:(c.H.set id (.row ver n g))[id]?=some (.row ver n g):=by simp[hlt]
 have TAH:∀i,i≠id→(c.H.set id (AO.row ver n g))[i]?=c.H[i]?:=fun i hi=>L_ (v_ hi)
 let c':Ctx:=⟨c.w,c.S,c.γ,c.H.set id (.row ver n g)⟩
 have J_:∀i,inf c'.H i=inf c.H i:=fun i=>by
  by_cases hi:i=id
  ·subst hi;simp[inf,c',hat,ho,AO.info]
  ·simp[inf,c',TAH i hi]
 have TCR:∀i:Nat,c'.H[i]?=some AO.dead↔c.H[i]?=some AO.dead:=fun i=>by
  by_cases hi:i=id
  ·subst hi;simp[c',hat,ho]
  ·simp[c',TAH i hi]
 have TCb:∀ (i:Nat) k q,c.H[i]?=some (AO.map k q)↔c'.H[i]?=some (AO.map k q):=fun i k q=>by
  by_cases hi:i=id
  ·subst hi;simp[c',hat,ho]
  ·simp[c',TAH i hi]
 have TAa:∀ {v a},Rep c v a→Rep c' v a:=fun hv=>TA (c:=c) (c':=c') rfl rfl rfl J_ TCR (fun i k q=>(TCb i k q).1) hv
 have TC0:∀b,Ai c' b→Ai c b:=by
  rintro b ⟨i,o,sz,hoi,TAO,hg⟩;by_cases hi:i=id
  ·subst hi;exact⟨i,_,sz,ho,rfl,hg⟩
  ·exact⟨i,o,sz,by rw[←TAH i hi];exact hoi,TAO,hg⟩
 have J':Ext c c':=by
  refine⟨?_,fun b h=>h,fun b h=>.inl h,fun b h=>.inr (TC0 b h),fun _ _ _=>rfl,N' _,rfl,rfl,rfl⟩;intro i o hoi;have key:∀v,inf c.H i=some v→(c'.H[i]?=some .dead∨∃v',Ab.inf c'.H i=some v'∧(v<v'∨(v'=v∧c'.γ i=c.γ i))) :=
   fun v hv=>.inr ⟨v,by rw[J_];exact hv,.inr ⟨rfl,rfl⟩⟩
  cases o with
  |D_=>trivial
  |dead=>exact(TCR i).2 hoi
  |row v _ _=>exact key v (by simp[inf,hoi,AO.info])
  |con v _ _=>exact key v (by simp[inf,hoi,AO.info])
  |map k q=>exact .inr ⟨⟨k,q,(TCb i k q).1 hoi⟩,rfl⟩
 refine⟨c',rfl,J'.toB m,hst.size,hst.defers,fun i=>TAa (hst.TAP i),by simp[c',hH],?_⟩;refine⟨?_,?_,?_,?_,hst.H_.bound⟩
 ·intro i v k q hoi
  by_cases hi:i=id
  ·subst hi
   simp only[c']at hoi;rw[hat]at hoi;cases hoi;rcases hst.H_.row i ver n f ho with h | ⟨b,sz,cs,el,h1,h2,h3,h4,h5,h6⟩
   ·exact .inl h
   ·exact .inr ⟨b,sz,cs,el,h1,h2,h3,h4,h5,fun j hj=>TAa (hfg j hj c _ rfl hst.H_ (h6 j hj))⟩
  ·simp only[c']at hoi
   rw[TAH i hi]at hoi;rcases hst.H_.row i v k q hoi with h | ⟨b,sz,cs,el,h1,h2,h3,h4,h5,h6⟩
   ·exact .inl h
   ·exact .inr ⟨b,sz,cs,el,h1,h2,h3,h4,h5,fun j hj=>TAa (h6 j hj)⟩
 ·intro i v k q hoi
  by_cases hi:i=id
  ·subst hi;simp only[c']at hoi;rw[hat]at hoi;cases hoi
  ·simp only[c']at hoi
   rw[TAH i hi]at hoi;rcases hst.H_.con i v k q hoi with h | ⟨b,sz,cs,el,fr,h1,h2,h3,h4,h5,h6⟩
   ·exact .inl h
   ·exact .inr ⟨b,sz,cs,el,fr,h1,h2,h3,h4,h5,fun j hj=>TAa (h6 j hj)⟩
 ·intro i k q hoi
  obtain⟨b,sz,es,cl,h1,h2,h3,h4⟩:=hst.H_.map i k q ((TCb i k q).2 hoi);exact⟨b,sz,es,cl,h1,h2,h3,h4.ext fun v a hv=>TAa hv⟩
 ·intro i i' o o' b sz sz' hoi TAm h1 h2 hg hg'
  have key:∀ (i:Nat) o,c'.H[i]?=some o→o.owned=true→∃o2:AO,c.H[i]?=some o2∧o2.owned=true:=by
   intro i o hoi h;by_cases hi:i=id
   ·subst hi;exact⟨_,ho,rfl⟩
   ·exact⟨o,by rw[←TAH i hi];exact hoi,h⟩
  obtain⟨o2,k1,k2⟩:=key i o hoi h1;obtain⟨o3,k3,k4⟩:=key i' o' TAm h2;exact hst.H_.inj _ _ _ _ _ _ _ k1 k3 k2 k4 hg hg'
theorem YQ {P:Program}{fn:Func}{str hcs:List Nat}{m:Nat}{r v:AV}{H:List AO}{s:AS}{t u:Nat}(hr:fn.results=#[.cell t u])(h:Qx P false u (s.get t) s.h=some v) (e:v=r) (hH:s.h.take m=H):TAC (I6 P fn str hcs m r H) s :=
 ⟨v,by simp[TD,Al,I6,hr,JC,ZX,BH,h],e,hH⟩
section
variable (P:Program) (fn:Func) (str hcs:List Nat) (b:Nat) (r:AV) (H':List AO)
theorem ve:(I6 P fn str hcs b r H').P=P:=C_ rfl
theorem pF:(I6 P fn str hcs b r H').fn=fn:=C_ rfl
theorem jw:(I6 P fn str hcs b r H').str=str:=C_ rfl
theorem jv:(I6 P fn str hcs b r H').hcs=hcs:=C_ rfl
end
end
end Go.Ab
namespace Go.Ab
open Go Go.RowKit
noncomputable section
set_option linter.defProp false
def X6:=XM @Vp <| XM @SK <| XM @Pt <| XM @qu <| XM @ku <| XM @ko <| XM @kj <| XM @kq <| XM @kp <| XM @cU <| XM @Vq <| XM @xg <| XM @s9 <| XM @ns <| XM @np <| XM @nt <| XM @Wn <| XM @Wo <| XM @gt <| XM @oz <| XM @oy <| XM @gr <| XM @UF <| XM @nr <| XM @nq <| XM @UG <| XM @gq <| XM @fX <| XM @Uo <| XM @UE <| XM @UD <| XM @Up <| XM @Uq <| XM @UC <| XM @go <| XM @RJ <| XM @gn <| XM @UA <| XM @gl <| XM @ot <| XM @uv <| XM @gh <| XM @NK <| XM @NJ <| XM @aC <| XM @aB <| XM @LQ <| XM @aE <| XM @Pu <| XM @aD <| XM @UB <| XM @Ps <| XM @ov <| XM @ox <| XM @ow <| XM @Uz <| XM @gk <| XM @En <| XM @aA <| XM @ou <| XM @gm <| XM @Uy <| XM @TAu <| XM @TA0 <| XM @IC <| XM @DO <| XM @MF <| XM @IB <| XM @Mb <| XM @SM <| XM @OB <| XM @Sv <| XM @Tl <| XM @P0 <| XM @Uw <| XM @Uv <| XM @Sz <| XM @HY <| @Ta
def yG:=XM @TAu <| XM @TA0 <| XM @IC <| XM @DO <| XM @MF <| XM @IB <| XM @Mb <| XM @SM <| XM @OB <| XM @Sv <| XM @Tl <| XM @P0 <| XM @Uw <| XM @Uv <| XM @Sz <| XM @Ta <| XM @TCU <| XM @qJ <| XM @Vl <| XM @Vk <| XM @cO <| XM @SF <| XM @SG <| XM @vD <| XM @jK <| XM @pH <| XM @qy <| XM @eE <| XM @eD <| XM @pL <| XM @pu <| XM @pt <| XM @cK <| XM @pB <| XM @jj <| XM @pC <| XM @uU <| XM @uT <| XM @R5 <| XM @Fk <| XM @jE <| XM @jD <| XM @vg <| XM @WW <| XM @jy <| XM @jx <| XM @ve <| XM @pF <| XM @jw <| XM @jv <| XM @gH <| XM @RK <| XM @gN <| XM @gQ <| XM @gR <| XM @gI <| XM @gO <| XM @gM <| XM @gL <| XM @gK <| XM @gJ <| XM @aN <| XM @aO <| XM @oM <| XM @oL <| XM @iv <| XM @iu <| XM @qS <| XM @MW <| XM @VO <| XM @qT <| XM @Yw <| XM @VN <| XM @HZ <| XM @bM <| XM @dE <| XM @Vc <| XM @Gj <| XM @j9 <| XM @MS <| XM @bU <| XM @dH <| XM @Ot <| XM @ON <| XM @j8 <| XM @l6 <| XM @bm <| XM @V9 <| XM @bu <| XM @bD <| XM @bI <| XM @EJ <| XM @Cb <| XM @nU <| XM @rV <| XM @dY <| XM @wo <| XM @xx <| XM @Bq <| XM @Te <| XM @PI <| XM @aM <| XM @aJ <| XM @aK <| XM @ix <| @HY
end
end Go.Ab
namespace Go.Ab
open Go Go.RowKit Go.ChangeShapes Go.WideShapes Go.ChangeAt
noncomputable section
variable {H:Type} {enc:TypeId×Value→H} {P:Program}
theorem PP {W w':World}{S S':Nat→Prop}(hx:Ext (.bare W S) (.bare w' S')):Below W.heap.size W w' :=
 ⟨hx.os,hx.tape,hx.output,hx.size,fun _ hk=>hx.same _ hk Do⟩
def WB (W:World):Nat→Prop:=fun b=>b<W.heap.size
theorem Vb {f:FuncId}{as:List AV}(h:TA3 P f as (.bool true)) {W:World} {vs:Array Value} (hv:TAF (.bare W (WB W)) vs as):Calls P f vs W fun e W'=>e=.returned (.bool true)∧Below W.heap.size W W':=by
 refine(h.2 W (WB W) vs (fun _ h=>h) hv).mono ?_;rintro e w' ⟨v,S',rfl,hr,_,hx⟩;cases hr;exact⟨rfl,PP hx⟩
theorem Dl {n:Int}(h:(Lit.int .i64 n).wf=true):-9223372036854775808≤n∧n<9223372036854775808:=by
 have:Q_.min≤n∧n≤Q_.max:=by simpa [Lit.wf]using h
 have e1:Q_.min = -9223372036854775808:=by decide
 have e2:Q_.max=9223372036854775807:=by decide
 omega
theorem MY {t e:TypeId}{r:Reach}{b0:Nat}{base:Nat}{sp:Nat→Bool}{held:Bool}{W:World}{v:Value}{d:DataW H}{ps:List MemPlace}(ht:P.underlying t=some (.slice e)) (he:P.underlying e=some (.int .i64)) (hc:P.cellsOf e=1)
  (TBA:Value.okWide P W r b0 t v) (h:DataW.Trod enc P W base sp held t v d ps) :
  ∃l:List Int,(∀x∈l,-9223372036854775808≤x∧x<9223372036854775808)∧l.length≤maxLen∧Rep (.bare W (WB W)) v (.sl l.length l.length (J0 I 0 l) false):=by
 obtain⟨a0,len,cap,rfl⟩:=okWide_slice ht TBA;obtain⟨fuel,hf⟩:=h;rcases open_ints ht he hc hf with⟨hcs,hx⟩ | ⟨a,TGb,TAZ,zs,hcs,_,hl,hm,hz,hx,TDd,hwz⟩
 ·simp[Value.cells]at hcs
  obtain⟨rfl,rfl,rfl⟩:=hcs;exact⟨[],by simp,by simp,.slz _ _ _ _ (by simp)⟩
 ·simp[Value.cells]at hcs
  obtain⟨rfl,rfl,rfl⟩:=hcs;have hlen:len≤zs.length:=by rw[hz];split <;> omega
  refine⟨zs.take len,fun x hx=>Dl (hwz x (List.mem_of_mem_take hx)),by rw[o_];exact k_ (Nat.min_le_left _ _) (k_ hl hm),?_⟩;rw[o_,Nat.min_eq_left hlen];rcases Nat.eq_zero_or_pos len with h0 |h0
  ·subst h0;exact .slz _ _ _ _ (by simp)
  ·have c0:=TDd 0 (by omega)
   have hsp:a.spot=none:=by
    unfold World.cell? at c0
    split at c0
    ·cases hs:a.spot with
     |none=>rfl
     |some s=>simp[Addr.add,hs]at c0
    ·cases c0
   obtain⟨ab,ao,as⟩:=a;simp only at hsp;subst hsp;have hb:ab<W.heap.size:=by
    unfold World.cell? at c0
    split at c0
    ·rename_i h;exact(c_.1 h).1
    ·cases c0
   refine .sl ab ao len len cap _ false (fun j=>.int .i64 (zs.getD j 0)) hb (fun j hj=>?_) (fun j hj=>?_) hl (by simp)
   ·have:=TDd j (by omega)
    rwa[Addr.add_lit]at this
   ·have:(zs.take len).getD j 0=zs.getD j 0:=by simp[K',hj]
    rw[Bq,this];exact .int _ _
theorem G7 (hl:laidOutB P=true){W W':World}{sp':Nat→Bool}(hb:Below W.heap.size W W'):∀ {ts:List TypeId} {vs:List Value} {ds:List (DataW H)} {p:List MemPlace},(∀t∈ts,P.readableRec t=true∧t<P.types.size) →
  ZB9 enc P W 0 (fun _=>true) true ts vs ds p→(∀x∈p,x.block<W.heap.size)→(∀x∈p,sp' x.block=true)→ZB9 enc P W' 0 sp' true ts vs ds p
 | [],_,_,_,_,h,_,_=>by
  obtain⟨rfl,rfl,rfl⟩:=trodAll_nil h;exact trodAll_mk0
 |t :: ts,_,_,_,ht,h,hlt,hsp=>by
  obtain⟨v,vs1,d,ds1,a,b,rfl,rfl,rfl,h1,h2⟩:=trodAll_cons h;obtain⟨r1,r2⟩:=ht t (by simp);exact trodAll_cons_mk (WideElems.Trod_stays hl r1 r2 h1 (fun x hx=>hb.same (hlt x (by simp[hx]))) (fun x hx=>hsp x (by simp[hx])))
   (G7 hl hb (fun t' ht'=>ht t' (by simp[ht'])) h2 (fun x hx=>hlt x (by simp[hx])) (fun x hx=>hsp x (by simp[hx])))
theorem eu {f:Func}{s:ChangeSpec}{apart fresh handsOn again:Bool}{W W':World}{args:Array Value}{ds:List (DataW H)} {p:List MemPlace} {tb:TypeId} (hl:laidOutB P=true)
  (hW:DataW.Whole enc P f.params.toList s.vars apart W args.toList ds [] p) (hA:ZB9 enc P W 0 (fun _=>true) true f.params.toList args.toList ds p) (hv:s.vars=[])
  (hts:∀t∈f.params.toList,P.readableRec t=true∧t<P.types.size) (TDN:f.resultTypes=#[tb]) (hb:P.underlying tb=some .bool)
  (hfn:s.fn H (ds ++ [])={ results:=[.lit (.bool true)],args:=ds }) (TCd:Below W.heap.size W W'):s.post enc P f apart fresh handsOn again W args (.bool true) W':=by
 have hlt:∀x∈p,x.block<W.heap.size:=fun x hx=>by simpa using hW.lt x hx
 have TBD:∀sp:Nat→Bool,(∀q∈p,sp q.block=true)→ZB9 enc P W' 0 sp true f.params.toList args.toList (s.fn H (ds ++ [])).args p:=fun sp hsp=>by
  rw[hfn];exact G7 hl TCd hts hA hlt hsp
 have TDe:∀sp:Nat→Bool,DataW.TrodVars enc P W' sp s.vars (s.fn H (ds ++ [])).vars []:=fun sp=>by
  rw[hfn,hv];rfl
 have hr:∀ (b:Nat) (sp:Nat→Bool) (hd:Bool),ZB9 enc P W' b sp hd f.resultTypes.toList ((Value.bool true).resultList f.resultTypes.size) (s.fn H (ds ++ [])).results []:=fun b sp hd=>by
  rw[hfn,TDN];exact trodAll_cons_mk (shut_bool hb _) trodAll_mk0
 have hold:∀q∈p,(fun b=>decide (b<W.heap.size)) q.block=true:=fun q hq=>by simpa using hlt q hq
 refine⟨ds,[],p,[],p,[],hW,hr _ _ _,TBD _ hold,TDe _,World.keptBut_mono (fun q hq=>⟨hq,.inr (.inl hq)⟩) (TCd.frame _),fun _=>?_⟩;obtain⟨_,_,_,_,_,hz,hn⟩:=hW;refine⟨ok_one (by rw[TDN]) rfl (okWide_bool_mk hb _),_,_,([] ++ p) ++ [],⟨[] ++ p,[],trodAll_append (TBD _ (fun _ _=>rfl)) (hr _ _ _),TDe _,rfl,?_,?_⟩,?_⟩
 ·intro b off hp
  have hp':MemPlace.cell b off∈p:=by simpa using hp
  rw[TCd.frozen (p:=⟨b,off,none⟩) (hlt _ hp')];exact hz b off hp'
 ·intro ha
  simpa using hn ha
 ·intro q hq _
  simpa using hq
end
end Go.Ab
namespace Go.Ab
open Go Go.RowKit
noncomputable section
theorem FF {m:Nat}{s:AS}(f:Nat→AV):Sub m s { s with h:=s.h ++ [AO.row 0 0 f] }:=by
 intro N c a hst;have hH:=hst.heap;have TAG:(c.H ++ [AO.row 0 0 f])[c.H.length]?=some (.row 0 0 f):=by simp
 have TAH:∀i,i≠c.H.length→(c.H ++ [AO.row 0 0 f])[i]?=c.H[i]?:=fun i hi=>by
  have:=As (nid:=none) (h:=c.H) (o:=.row 0 0 f) i (by simpa [QL]using hi)
  simpa [KI]using this
 obtain⟨g1,g2⟩:=HI hst.H_ (id:=c.H.length) (ver:=0) (w:=c.w) TAG TAH rfl (.inl (by simp));exact⟨⟨c.w,c.S,JW c.γ c.H.length none,c.H ++ [.row 0 0 f]⟩,rfl,g2.toB m,hst.size,hst.defers,fun j=>g2.rep hst.H_ (hst.TAP j),by simp[hH],g1⟩
theorem ZU {H:List AO}{id ver n M es:Nat}{f q:Nat→AV}(ho:H[id]?=some (.row ver n f)):Ko H (.sl 0 M q true) (.osl id ver es 0 0):=by
 intro c v hH _ hv;have J_:inf c.H id=some ver:=by simp[inf,hH,ho,AO.info]
 cases hv with
 |sl _ _ _ _ _ _ _ _ _ _ _ _ ht=>have:=ht rfl;subst this;exact .TAg _ _ _ _ _ J_
 |slz _ _ _ _ ht=>have:=ht rfl;subst this;exact .TAg _ _ _ _ _ J_
theorem Au {m:Nat}{s:AS}(i:Nat)(b:AV)(hi:i<s.n0)(hw:Ko s.h (s.sl.getD i .any) b):Sub m s { s with sl:=s.sl.set i b }:=by
 intro N c a hst;refine⟨c,rfl,(Ext.refl c).toB m,hst.size,hst.defers,fun j=>?_,hst.heap,hst.H_⟩;have:=hst.TAP j;unfold AS.get at this ⊢;by_cases hj:j<s.n0
 ·simp only[hj,if_true]at this ⊢
  by_cases he:j=i
  ·subst he
   by_cases hl:j<s.sl.length
   ·rw[K',U' hl];exact hw _ _ hst.heap hst.H_ this
   ·rw[ZDK (by omega)];exact this
  ·rw[K',L_ (v_ he),←K'];exact this
 ·simp only[hj,if_false]at this ⊢;exact this
theorem Kh {H:List AO}{id ver es n k M:Nat}{f g:Nat→AV}(ho:H[id]?=some (.con ver k f)) (hle:M≤k) (hM:n=0→M=0) (hg:∀j,j<M→Ko H (f j) (g j)):Ko H (.osl id ver es 0 n) (.sl n M g false):=by
 rintro c v rfl hr h;have J_:inf c.H id=some ver:=by simp[inf,ho,AO.info]
 have hns:¬TAd c.H id ver:=by
  rintro(⟨v',hi,hlt⟩ |hd)
  ·rw[J_]at hi;cases hi;omega
  ·simp[inf,hd,AO.info]at J_
 have hz:n=0→∀b cap,Rep c (.slice b 0 cap) (.sl n M g false):=by
  rintro hn b cap;rw[hn,hM hn];exact .slz _ _ _ _ (by simp)
 cases h with
 |osl _ _ _ _ _ cap b sz hi hgm hn TAY =>
  rcases hr.con id ver k f ho with⟨h1,h2⟩ | ⟨b',sz',cs,el,fr,h1,h2,h3,h4,h5,h6⟩
  ·rw[h1]at hgm;cases hgm
  ·rw[h1]at hgm;cases hgm
   refine .sl b 0 n M cap g false (fun j=>cs.getD j undef) h5 (fun j hj=>?_) (fun j hj=>hg j hj c _ rfl hr (h6 j (by omega))) hn (by simp);rw[cell_of_row c.w b _ cs el fr h2];have hlt:j<cs.size:=by omega
   simp[hlt,Array.getD]
 |TAg _ _ _ _ b hi=>exact hz rfl b 0
 |TAL _ _ _ _ _ b cap hn hs=>exact absurd hs hns
 |TAE _ _ _ _ b hs=>exact absurd hs hns
theorem Ny {α:Type}(l:List α)(d:α)(j:Nat)(h:j<l.length):l.take (j+1)=l.take j ++ [l.getD j d]:=by
 rw[ZCV h,K',U_ h];rfl
theorem GV {α:Type}{l:List α}{d:α}{j:Nat}(h:j<l.length):l.getD j d∈l:=by
 rw[K',U_ h];exact ZAP _
theorem wj (j:Nat)(h:j<4611686018427387904):Q_.wrap ((j:Int)+1)=((j+1:Nat):Int):=by rw[M'];omega
theorem Us {n n' m m':Nat}{f f':Nat→AV}{t:Bool}(hn:n=n')(hm:m'≤m)(hf:∀j,j<m'→f j=f' j):B_ (.sl n m f t) (.sl n' m' f' false):=by subst hn;exact sc hm hf
theorem Ca {α:Type}(l:List α)(d:α)(i j:Nat)(h:i<j):(l.take j).getD i d=l.getD i d:=by
 simp[K',ZAV,h]
theorem Xp {P:Program}{fn:Func}{str hcs:List Nat}{r v:AV}{s:AS}{t:Nat}(hr:fn.results=#[.tmp t])(h:s.get t=v)(hs:A_ r)(e:v=r):TAC (JK P fn str hcs r) s :=
 A9 hr (XU hs (h.trans e))
theorem mg {P:Program}{fn:Func}{str hcs:List Nat}{a b x y:AV}{s:AS}{t u:Nat}(hr:fn.results=#[.tmp t,.tmp u])(h1:s.get t=x)(h2:s.get u=y)(s1:A_ a)(s2:A_ b)(e1:x=a)(e2:y=b) :
  TAC (JK P fn str hcs (.tup [a,b])) s:=rj hr (Dv ⟨XU s1 (h1.trans e1),XU s2 (h2.trans e2),trivial⟩)
theorem Mh {h h':List AO}(h1:∀ o∈h,∀ v n f,o≠.con v n f)(h2:∀o∈h',∀v n f,o≠.con v n f):K1 h h':=by
 intro id v n f;constructor
 ·intro h;exact absurd rfl (h1 _ (ZAC h) v n f)
 ·intro h;exact absurd rfl (h2 _ (ZAC h) v n f)
theorem JJ {n n' m m':Nat}{f f':Nat→AV}{t:Bool}(hn:n=n')(hm:m'≤m)(hf:∀j,j<m'→B_ (f j) (f' j)):B_ (.sl n m f t) (.sl n' m' f' false):=fun c v h=>by
 subst hn;cases h with
 |sl b base _ _ cap _ _ us hS hc hr hn ht=>exact .sl b base n m' cap f' false us hS (fun j hj=>hc j (by omega)) (fun j hj=>hf j hj c _ (hr j (by omega))) hn (by simp)
 |slz a cap _ _ ht =>
  obtain rfl:m'=0:=by omega
  exact .slz _ _ _ _ (by simp)
theorem Xw {H:List AO}{a b:AV}(h:A_ b)(hw:B_ a b):Zs H a b:=fun c v hH hr hv=>h.TBH H c v hH hr (hw c v hv)
theorem HL (l:List Int){n m:Nat}{f:Nat→AV}{t:Bool}(h1:n=l.length)(h2:l.length≤m)(hf:∀j,j<l.length→f j=I (l.getD j 0)):B_ (.sl n m f t) (X8 l) :=
 Us h1 h2 hf
theorem Wb {l:List Int}{H:List AO}{a:AV}{id ver n m:Nat}{g:Nat→AV}(ha:a=.osl id ver 1 0 m)(ho:H[id]?=some (.row ver n g)) (hm:m=l.length) (hn:l.length≤n) (hg:∀j,j<l.length→g j=I (l.getD j 0)):Zs H a (X8 l):=by
 subst ha;subst hm;exact Kc (.inl ho) (by omega) (by omega) fun j hj=>by rw[x_,hg j hj];exact(X9 _).TBH H
theorem xL (m:Nat)(n:Int):J9 m (I n):=X4 (X9 n)
theorem nC (L:List Int)(t:Bool):B_ (.sl L.length L.length (Xf (L.map I)) t) (X8 L):=JJ rfl (N' _) fun j hj=>by
 have:Xf (L.map I) j=I (L.getD j 0):=by
  unfold Xf;simp[K',hj]
 rw[this];exact B_.C' _
theorem Ud {m:Nat}{s:AS}(i:Nat)(b:AV)(hi:i<s.n0)(hw:B_ (s.sl.getD i .any) b):Sub m s { s with sl:=s.sl.set i b }:=by
 intro N c a hst;refine⟨c,rfl,(Ext.refl c).toB m,hst.size,hst.defers,fun j=>?_,hst.heap,hst.H_⟩;have:=hst.TAP j;unfold AS.get at this ⊢;by_cases hj:j<s.n0
 ·simp only[hj,if_true]at this ⊢
  by_cases he:j=i
  ·subst he
   by_cases hl:j<s.sl.length
   ·rw[K',U' hl];exact hw _ _ this
   ·rw[ZDK (by omega)];exact this
  ·rw[K',L_ (v_ he),←K'];exact this
 ·simp only[hj,if_false]at this ⊢;exact this
theorem nE {l m:List AV}(h:TAR l m):B_ (.tup l) (.tup m):=fun c v hv=>by
 cases hv with
 |tup vs _ hs hr =>
  obtain⟨e,h'⟩:=h.spec (c:=c);exact .tup vs m (by omega) fun j hj=>h' j (by omega) _ (hr j (by omega))
def ZO (n:Int):Prop:=-9223372036854775808≤n∧n<9223372036854775808
def XA (n m:Int):Int:=(if n<0 then -(n+1)else n).tmod m
theorem Qf (n m:Int)(h:0<m):0≤XA n m∧XA n m<m:=by
 unfold XA;have:0≤(if n<0 then -(n+1)else n):=by split <;> omega
 generalize (if n<0 then -(n+1)else n)=x at this;rw[ZAA this];exact⟨ZBr _ (by omega),ZBN _ h⟩
def atF (l:List Int)(i m:Int):Int:=if i<0∨l.length≤i then 0 else XA (l.getD i.toNat 0) m
theorem XO (l:List Int)(i m:Int)(h:0<m):0≤atF l i m∧atF l i m<m:=by
 unfold atF
 split
 ·omega
 ·exact Qf _ _ h
def FR (l:List Int):Prop:=∀x∈l,ZO x
theorem io {l:List Int}(h:FR l)(i:Nat):ZO (l.getD i 0):=by
 rw[K'];cases hx:l[i]? with
 |none=>exact⟨by decide,by decide⟩
 |some x=>exact h x (ZAC hx)
theorem KV (g:FuncId):A_ (.fn g []):=Kd (by simp)
theorem Hr {P:Program}{fn:Func}{str hcs:List Nat}{r v:AV}{s:AS}{t u:Nat}(hr:fn.results=#[.cell t u])(h:Qx P false u (s.get t) s.h=some v) (hs:Zs s.h v r):TAC (JK P fn str hcs r) s :=
 ⟨v,by simp[Al,R5,Fk,hr,JC,ZX,BH,h],hs⟩
end
end Go.Ab
namespace Go.Ab
open Go Go.RowKit
noncomputable section
set_option linter.defProp false
section
variable {α β:Type}
theorem oa (a:α)(l:List α)(n:Nat)(d:α):(a :: l).getD (n+1) d=l.getD n d:=C_ rfl
theorem oc (a:α)(l:List α)(d:α):(a :: l).getD 0 d=a:=C_ rfl
theorem ur (a b:α)(l:List α)(n:Nat):(a :: l).set (n+1) b=a :: l.set n b:=C_ rfl
theorem ut (a b:α)(l:List α):(a :: l).set 0 b=b :: l:=C_ rfl
theorem uk (f:α→β)(a:α)(l:List α):(a :: l).map f=f a :: l.map f:=C_ rfl
theorem ul (f:α→β):([]:List α).map f=[]:=C_ rfl
theorem tV (f:α→Bool)(a:α)(l:List α):(a :: l).all f=(f a && l.all f):=C_ (List.all_cons ..)
theorem tW (f:α→Bool):([]:List α).all f=true:=C_ (List.all_nil ..)
theorem ug (a:α)(l:List α):(a :: l).length=l.length+1:=C_ rfl
theorem uh:([]:List α).length=0:=C_ rfl
theorem tX (a:α)(l m:List α):(a :: l) ++ m=a :: (l ++ m):=C_ rfl
theorem tZ (m:List α):[] ++ m=m:=C_ rfl
theorem tY (l:List α):l ++ []=l:=C_ (ZAK l)
theorem ud (a:α)(l:List α)(n:Nat):(a :: l)[n+1]?=l[n]?:=C_ rfl
theorem ue (a:α)(l:List α):(a :: l)[0]?=some a:=C_ rfl
theorem un (a:α)(n:Nat):ZAJ (n+1) a=a :: ZAJ n a:=C_ rfl
theorem uq (a:α):ZAJ 0 a=[]:=C_ rfl
theorem ua (a b:Nat)(l:List Nat):(a :: l).contains b=(b == a || l.contains b):=C_ (List.contains_cons ..)
theorem ub (b:Nat):([]:List Nat).contains b=false:=C_ rfl
theorem og (f:α→β)(a:α):(some a).map f=some (f a):=C_ rfl
theorem oe (f:α→β):(none:Option α).map f=none:=C_ rfl
theorem um (a:α):(some a).isSome=true:=C_ rfl
end
theorem xw:(0:Int).toNat=0:=C_ rfl
theorem xv:(1:Int).toNat=1:=C_ rfl
theorem xu (n:Nat):(n:Int).toNat=n:=C_ rfl
theorem o8 {α:Type}(a:α)(l:List α)(n:Nat):(a :: l).drop (n+1)=l.drop n:=C_ rfl
theorem o9 {α:Type}(l:List α):l.drop 0=l:=C_ rfl
theorem oh {α:Type}(a:α)(l:List α)(n:Nat):(a :: l).take (n+1)=a :: l.take n:=C_ rfl
theorem ol {α:Type}(l:List α):l.take 0=[]:=C_ rfl
theorem vV (i:Nat)(v:AV)(l:List (Nat×AV)) (j:Nat):XJ ((i,v) :: l) j=if j=i then v else XJ l j:=C_ rfl
theorem ri (i:Nat)(v:AV)(l:List (Nat×AV)) (d:Nat) (u:AV):Nf ((i,v) :: l) d u=if d=i then(i,u) :: l else(i,v) :: Nf l d u:=C_ rfl
theorem pJ (hid:List Nat)(i:Nat)(v:AV)(l:List (Nat×AV)):Iz hid ((i,v) :: l)=if hid.contains i=true then(i,v) :: Iz hid l else Iz hid l:=C_ rfl
theorem pK (hid:List Nat):Iz hid []=[]:=C_ rfl
theorem jh (hc:Bool)(o:Oper)(os:List Oper):Gc hc (o :: os)=(if QH hc o.op=2 then 1 else 0)+Gc hc os:=C_ rfl
theorem ji (hc:Bool):Gc hc []=0:=C_ rfl
section
variable (hc:Bool)
theorem jc (x:Operand):QH hc (.move x)=0:=C_ rfl
theorem Vg (x:Operand):QH hc (.assign x)=0:=C_ rfl
theorem jd (x y z:Operand):QH hc (.pick x y z)=0:=C_ rfl
theorem PU (x:Operand):QH hc (.nilCheck x)=0:=C_ rfl
theorem pv (o:BinOp)(t:TypeId)(x y:Operand)(u:TypeId):QH hc (.binOp o t x y u)=0:=C_ rfl
theorem uS (o:UnOp)(t:TypeId)(x:Operand):QH hc (.unOp o t x)=0:=C_ rfl
theorem ja (t u:TypeId)(x:Operand):QH hc (.convert t u x)=0:=C_ rfl
theorem NX (t:TypeId)(x:Operand)(j:Nat):QH hc (.fieldAddr t x j)=0:=C_ rfl
theorem NY (t:TypeId)(x y:Operand):QH hc (.indexAddr t x y)=0:=C_ rfl
theorem Sr (x:Operand)(j:Nat):QH hc (.extract x j)=0:=C_ rfl
theorem cF (t:TypeId)(x:Operand)(a b c:Option Operand):QH hc (.slice t x a b c)=0:=C_ rfl
theorem cC (t:TypeId)(ps:Array (Nat×Operand)):QH hc (.build t ps)=0:=C_ rfl
theorem Me (t:TypeId)(n:Nat)(ps:Array (Nat×Operand)):QH hc (.buildSlice t n ps)=0:=C_ rfl
theorem jb (t:TypeId)(x:Operand):QH hc (.load t x)=1:=C_ rfl
theorem cz (t:TypeId):QH hc (.alloc t)=2:=C_ rfl
theorem cG (t:TypeId)(x y:Operand):QH hc (.store t x y)=3:=C_ rfl
theorem py (a:Array Operand)(ts:Array TypeId):QH hc (.call { callee:=.builtin .len,args:=a,argTypes:=ts })=0:=C_ rfl
theorem pz (a:Array Operand)(ts:Array TypeId):QH hc (.call { callee:=.builtin .max,args:=a,argTypes:=ts })=0:=C_ rfl
theorem Vf (a:Array Operand)(ts:Array TypeId):QH hc (.call { callee:=.builtin .append,args:=a,argTypes:=ts })=3:=C_ rfl
theorem cE (f:Operand)(a:Array Operand)(ts:Array TypeId):QH true (.call { callee:=.value f,args:=a,argTypes:=ts })=3:=C_ rfl
theorem cD (f:Operand)(a:Array Operand)(ts:Array TypeId):QH false (.call { callee:=.value f,args:=a,argTypes:=ts })=1:=C_ rfl
end
section
variable (P:Program) (st:Bool) (t:TypeId) (h:List AO)
theorem mc (m:Nat)(f:Nat→AV)(off:Nat):rd none m f off=Qd (off<m) (some (f off)):=C_ rfl
theorem eJ (n m:Nat)(f:Nat→AV)(off:Nat):rd (some n) m f off=Qd (off+n≤m) (some (.agg (QJ f off 0 n))):=C_ rfl
theorem Sq (f:Nat→AV)(off j:Nat):QJ f off j 0=[]:=C_ rfl
theorem Sp (f:Nat→AV)(off j n:Nat):QJ f off j (n+1)=f (off+j) :: QJ f off (j+1) n:=C_ rfl
theorem x9 (f:Nat→AV)(i:Nat):CE f i []=f:=C_ rfl
theorem x8 (f:Nat→AV)(i:Nat)(v:AV)(l:List AV):CE f i (v :: l)=CE (Ek f i v) (i+1) l:=C_ rfl
def UP (k:Option (Option Nat)) (st:Bool) (a:AV) (h:List AO):Option AV :=
 match k with
 |none=>none
 |some k =>
  match a with
  | .ptr m f off=>rd k m f off
  | .ref id ver off =>
   match h[id]? with
   |some (.row v m f)=>Qd (st=false∧v=ver) (rd k m f off)
   |some (.con v m f)=>Qd (v=ver) (rd k m f off)
   |_=>none
  |_=>none
theorem Bu (a:AV):Qx P st t a h=UP (CD P t) st a h:=C_ rfl
def UR (k:Option Nat)(st:Bool)(ver off:Nat)(o:Option AO):Option AV :=
 match o with
 |some (.row v m f)=>Qd (st=false∧v=ver) (rd k m f off)
 |some (.con v m f)=>Qd (v=ver) (rd k m f off)
 |_=>none
variable (k:Option Nat)
theorem UQ (m:Nat)(f:Nat→AV)(off:Nat):UP (some k) st (.ptr m f off) h=rd k m f off:=C_ rfl
theorem KA (id ver off:Nat):UP (some k) st (.ref id ver off) h=UR k st ver off h[id]?:=C_ rfl
theorem KB (ver off v m:Nat)(f:Nat→AV):UR k st ver off (some (.row v m f))=Qd (st=false∧v=ver) (rd k m f off):=C_ rfl
theorem US (ver off v m:Nat)(f:Nat→AV):UR k st ver off (some (.con v m f))=Qd (v=ver) (rd k m f off):=C_ rfl
theorem U9 (v:AV):ZF true v=v.cells.map AV.boxed:=C_ rfl
theorem U8 (v:AV):ZF false v=v.cells.map AV.loose:=C_ rfl
def WI (st:Bool)(ts:Option Nat)(id ver off:Nat)(v:AV)(h:List AO)(o:Option AO):Option (List AO) :=
 match o with
 |some (.row v' m f)=>Qd (v'=ver∧ts=some v.cells.length∧v.cells≠[]∧off+v.cells.length≤m∧v.cells.all AV.one=true) (some (h.set id (.row v' m (CE f off (ZF st v)))))
 |_=>none
theorem M2 (id ver off:Nat)(v:AV):Zv P st t (.ref id ver off) v h=WI st (Zi P t) id ver off v h h[id]?:=C_ rfl
theorem Iy (ts:Option Nat)(id ver off:Nat)(v:AV)(v' m:Nat)(f:Nat→AV):WI st ts id ver off v h (some (.row v' m f)) =
  Qd (v'=ver∧ts=some v.cells.length∧v.cells≠[]∧off+v.cells.length≤m∧v.cells.all AV.one=true) (some (h.set id (.row v' m (CE f off (ZF st v))))):=C_ rfl
def Gz (e:Option (TypeId×Nat×Nat)) (P:Program) (t:TypeId) (x:AV) (i:Int):Option AV :=
 match e with
 |some (_,s,_) =>
  match x with
  | .sl n m f _=>Qd (0≤i∧i<n) (some (.ptr m f (i.toNat*s)))
  | .osl id ver _ off n=>Qd (0≤i∧i<n) (some (.ref id ver (off+i.toNat*s)))
  |_=>none
 |none =>
  match fZ P t with
  |some (n,s,_) =>
   match x with
   | .ptr m f off=>Qd (0≤i∧i<n) (some (.ptr m f (off+i.toNat*s)))
   | .ref id ver off=>Qd (0≤i∧i<n) (some (.ref id ver (off+i.toNat*s)))
   |_=>none
  |none=>none
theorem RY (x:AV)(k:IntKind)(i:Int):DB P t x (.int k i)=Gz (AK P t) P t x i:=C_ (by
 unfold DB Gz;first |rfl | (cases AK P t <;> first |rfl | (cases x <;> rfl) | (cases fZ P t <;> first |rfl | (cases x <;> rfl))))
def PD (a:Option (Nat×Nat×Option Nat)) (x:AV) (i:Int):Option AV :=
 match a with
 |some (n,s,_) =>
  match x with
  | .ptr m f off=>Qd (0≤i∧i<n) (some (.ptr m f (off+i.toNat*s)))
  | .ref id ver off=>Qd (0≤i∧i<n) (some (.ref id ver (off+i.toNat*s)))
  |_=>none
 |none=>none
theorem UN (e s b n m:Nat)(f:Nat→AV)(q:Bool)(i:Int):Gz (some (e,s,b)) P t (.sl n m f q) i=Qd (0≤i∧i<n) (some (.ptr m f (i.toNat*s))):=C_ rfl
theorem Iv (e s b id ver es off n:Nat)(i:Int):Gz (some (e,s,b)) P t (.osl id ver es off n) i=Qd (0≤i∧i<n) (some (.ref id ver (off+i.toNat*s))):=C_ rfl
theorem PE (x:AV)(i:Int):Gz none P t x i=PD (fZ P t) x i:=C_ rfl
theorem RW (n s:Nat)(q:Option Nat)(m:Nat)(f:Nat→AV)(off:Nat)(i:Int):PD (some (n,s,q)) (.ptr m f off) i=Qd (0≤i∧i<n) (some (.ptr m f (off+i.toNat*s))):=C_ rfl
theorem RX (n s:Nat)(q:Option Nat)(id ver off:Nat)(i:Int):PD (some (n,s,q)) (.ref id ver off) i=Qd (0≤i∧i<n) (some (.ref id ver (off+i.toNat*s))):=C_ rfl
def LV (k:Option (Nat×Nat×Option Nat)) (x:AV):Option AV :=
 match k with
 |some (o,_,_) =>
  match x with
  | .ptr m f off=>some (.ptr m f (off+o))
  | .ref id ver off=>some (.ref id ver (off+o))
  |_=>none
 |none=>none
theorem HU (x:AV)(i:Nat):CG P t x i=LV (BX P t i) x:=C_ rfl
theorem PB (o s:Nat)(q:Option Nat)(m:Nat)(f:Nat→AV)(off:Nat):LV (some (o,s,q)) (.ptr m f off)=some (.ptr m f (off+o)):=C_ rfl
theorem DA (o s:Nat)(q:Option Nat)(id ver off:Nat):LV (some (o,s,q)) (.ref id ver off)=some (.ref id ver (off+o)):=C_ rfl
def WA (k:Option (Nat×Nat×Option Nat)) (x:AV):Option AV :=
 match k with
 |some (o,_,k)=>match x with | .agg l=>apart k l o |_=>none
 |none=>none
theorem ig (x:AV)(i:Nat):HS P t x i=WA (BX P t i) x:=C_ rfl
theorem RU (o s:Nat)(q:Option Nat)(l:List AV):WA (some (o,s,q)) (.agg l)=apart q l o:=C_ rfl
theorem oH (l:List AV)(off:Nat):apart none l off=Qd (off<l.length) (some (l.getD off .any)):=C_ rfl
theorem oI (n:Nat)(l:List AV)(off:Nat):apart (some n) l off=Qd (off+n≤l.length) (some (.agg ((l.drop off).take n))):=C_ rfl
theorem kF (d:Int):Jv none d=some d:=C_ rfl
theorem kG (k:IntKind)(n d:Int):Jv (some (.int k n)) d=some n:=C_ rfl
def Lk (e:Option (TypeId×Nat×Nat)) (x:AV) (lo hi mx:Option AV):Option AV :=
 match e,mx with
 |some (_,s,_),none =>
  match x with
  | .sl n m f t =>
   match Jv lo 0,Jv hi n with
   |some l,some h=>Qd (0≤l∧l≤h∧h≤n) (some (.sl (h-l).toNat (min ((h-l).toNat*s) (m-l.toNat*s)) (fun j=>f (l.toNat*s+j)) (t && decide (h=n))))
   |_,_=>none
  | .osl id ver es off n =>
   match Jv lo 0,Jv hi n with
   |some l,some h=>Qd (0≤l∧l≤h∧h≤n∧es=s) (some (.osl id ver es (off+l.toNat*s) (h-l).toNat))
   |_,_=>none
  |_=>none
 |some (_,s,_),some mx =>
  match x with
  | .sl n m f _ =>
   match Jv lo 0,Jv hi n,mx with
   |some l,some h,.int _ q=>Qd (0≤l∧l≤h∧h≤n∧q=h) (some (.sl (h-l).toNat (min ((h-l).toNat*s) (m-l.toNat*s)) (fun j=>f (l.toNat*s+j)) true))
   |_,_,_=>none
  |_=>none
 |_,_=>none
theorem iE (x:AV)(lo hi mx:Option AV):Es P t x lo hi mx=Lk (AK P t) x lo hi mx:=C_ rfl
def WF (s n m:Nat)(f:Nat→AV)(t:Bool)(a b:Option Int):Option AV :=
 match a,b with
 |some l,some h=>Qd (0≤l∧l≤h∧h≤n) (some (.sl (h-l).toNat (min ((h-l).toNat*s) (m-l.toNat*s)) (fun j=>f (l.toNat*s+j)) (t && decide (h=n))))
 |_,_=>none
def WE (s id ver es off n:Nat)(a b:Option Int):Option AV :=
 match a,b with
 |some l,some h=>Qd (0≤l∧l≤h∧h≤n∧es=s) (some (.osl id ver es (off+l.toNat*s) (h-l).toNat))
 |_,_=>none
def WG (s n m:Nat)(f:Nat→AV)(a b:Option Int)(mx:AV):Option AV :=
 match a,b,mx with
 |some l,some h,.int _ q=>Qd (0≤l∧l≤h∧h≤n∧q=h) (some (.sl (h-l).toNat (min ((h-l).toNat*s) (m-l.toNat*s)) (fun j=>f (l.toNat*s+j)) true))
 |_,_,_=>none
theorem UY (e s b n m:Nat)(f:Nat→AV)(q:Bool)(lo hi:Option AV):Lk (some (e,s,b)) (.sl n m f q) lo hi none=WF s n m f q (Jv lo 0) (Jv hi n):=C_ rfl
theorem Sa (e s b id ver es off n:Nat)(lo hi:Option AV):Lk (some (e,s,b)) (.osl id ver es off n) lo hi none=WE s id ver es off n (Jv lo 0) (Jv hi n):=C_ rfl
theorem Sb (e s b n m:Nat)(f:Nat→AV)(q:Bool)(lo hi:Option AV)(mx:AV):Lk (some (e,s,b)) (.sl n m f q) lo hi (some mx)=WG s n m f (Jv lo 0) (Jv hi n) mx:=C_ rfl
theorem aY (s n m:Nat)(f:Nat→AV)(q:Bool)(l h:Int):WF s n m f q (some l) (some h)=Qd (0≤l∧l≤h∧h≤n) (some (.sl (h-l).toNat (min ((h-l).toNat*s) (m-l.toNat*s)) (fun j=>f (l.toNat*s+j)) (q && decide (h=n)))):=C_ rfl
theorem aX (s id ver es off n:Nat)(l h:Int):WE s id ver es off n (some l) (some h)=Qd (0≤l∧l≤h∧h≤n∧es=s) (some (.osl id ver es (off+l.toNat*s) (h-l).toNat)):=C_ rfl
theorem aZ (s n m:Nat)(f:Nat→AV)(l h:Int)(k:IntKind)(q:Int):WG s n m f (some l) (some h) (.int k q)=Qd (0≤l∧l≤h∧h≤n∧q=h) (some (.sl (h-l).toNat (min ((h-l).toNat*s) (m-l.toNat*s)) (fun j=>f (l.toNat*s+j)) true)):=C_ rfl
theorem oF (n m:Nat)(f:Nat→AV)(q:Bool):NR P t (.sl n m f q)=Qd ((AK P t).isSome=true) (some (.int .i64 n)):=C_ rfl
theorem il (a b c d n:Nat):NR P t (.osl a b c d n)=Qd ((AK P t).isSome=true) (some (.int .i64 n)):=C_ rfl
def gU (a b:Option IntKind)(x:AV):Option AV :=
 match a,b,x with
 |some _,some k,.int _ n=>some (.int k (k.wrap n))
 |_,_,_=>none
theorem oC (u:TypeId)(x:AV):Og P t u x=gU (Vx P t) (Vx P u) x:=C_ rfl
theorem gV (a k q:IntKind)(n:Int):gU (some a) (some k) (.int q n)=some (.int k (k.wrap n)):=C_ rfl
theorem wc (o:AO):KI none h o=h ++ [o]:=C_ rfl
theorem we (id:Nat)(o:AO):KI (some id) h o=h.set id o:=C_ rfl
theorem r6:QL none h=h.length:=C_ rfl
theorem r7 (id:Nat):QL (some id) h=id:=C_ rfl
variable (nid:Option Nat)
def Ww (z:Option (List AV)) (nid:Option Nat) (h:List AO):Option (AV×List AO) :=
 match z with
 |some z=>some (.ref (QL nid h) 0 0,KI nid h (.row 0 z.length (Xf z)))
 |none=>none
theorem gy:Bf P nid t h=Ww (Qj P t) nid h:=C_ rfl
theorem aI (z:List AV):Ww (some z) nid h=some (.ref (QL nid h) 0 0,KI nid h (.row 0 z.length (Xf z))):=C_ rfl
theorem uA (v:AV):NN nid v h=Qd (v.cells.all AV.one=true) (some (.ref (QL nid h) 0 0,KI nid h (.row 0 v.cells.length (Xf (v.cells.map AV.boxed))))):=C_ rfl
def UT (e:Option (TypeId×Nat×Nat)) (P:Program) (nid:Option Nat) (n m:Int) (h:List AO):Option (AV×List AO) :=
 match e with
 |some (e,s,by_) =>
  match Qj P e with
  |some z=>Qd (m=n∧0≤n∧by_*n≤140737488355328∧n≤9223372036854775807) (some (.osl (QL nid h) 0 s 0 n.toNat,KI nid h (.row 0 (n.toNat*s) (KT z))))
  |none=>none
 |none=>none
theorem oG (a b:IntKind)(n m:Int):Ed P nid t (.int a n) (.int b m) h=UT (AK P t) P nid n m h:=C_ (by
 unfold Ed UT;cases AK P t <;> first |rfl | (rename_i x;obtain⟨_,_,_⟩:=x;rfl))
def iq (z:Option (List AV)) (s by_:Nat) (nid:Option Nat) (n m:Int) (h:List AO):Option (AV×List AO) :=
 match z with
 |some z=>Qd (m=n∧0≤n∧by_*n≤140737488355328∧n≤9223372036854775807) (some (.osl (QL nid h) 0 s 0 n.toNat,KI nid h (.row 0 (n.toNat*s) (KT z))))
 |none=>none
theorem ip (e s b:Nat)(n m:Int):UT (some (e,s,b)) P nid n m h=iq (Qj P e) s b nid n m h:=C_ rfl
theorem ir (z:List AV)(s b:Nat)(n m:Int):iq (some z) s b nid n m h=Qd (m=n∧0≤n∧b*n≤140737488355328∧n≤9223372036854775807) (some (.osl (QL nid h) 0 s 0 n.toNat,KI nid h (.row 0 (n.toNat*s) (KT z)))):=C_ rfl
theorem WH (s n m:Nat)(g:Nat→AV)(q:Bool):Db s (.sl n m g q) h=Qd (n*s≤m) (some (n,g)):=C_ rfl
def sN (s ver es off n:Nat)(o:Option AO):Option (Nat×(Nat→AV)) :=
 match o with
 |some (.row v m g)=>Qd (v=ver∧es=s∧off+n*s≤m) (some (n,fun j=>g (off+j)))
 |some (.con v m g)=>Qd (v=ver∧es=s∧off+n*s≤m) (some (n,fun j=>g (off+j)))
 |_=>none
theorem iF (s id ver es off n:Nat):Db s (.osl id ver es off n) h=sN s ver es off n h[id]?:=C_ rfl
theorem b7 (s ver es off n v m:Nat)(g:Nat→AV):sN s ver es off n (some (.row v m g))=Qd (v=ver∧es=s∧off+n*s≤m) (some (n,fun j=>g (off+j))):=C_ rfl
def gX (e:Option (TypeId×Nat×Nat)) (x y:AV) (h:List AO):Option (AV×List AO) :=
 match e with
 |none=>none
 |some (_,s,_) =>
  match Db s y h with
  |none=>none
  |some (m,g) =>
   match x with
   | .osl id ver es off n =>
    match h[id]? with
    |some (.row v k f)=>Qd (v=ver∧es=s∧off+min m n*s≤k∧(∀j,j<min m n*s→(g j).one=true))
      (some (.int .i64 ((min m n:Nat):Int),h.set id (.row v k (Mj off (min m n*s) f g))))
    |_=>none
   |_=>none
theorem oD (x y:AV):FQ P t x y h=gX (AK P t) x y h:=C_ rfl
def ib (o:Option (Nat×(Nat→AV))) (s:Nat) (x:AV) (h:List AO):Option (AV×List AO) :=
 match o with
 |none=>none
 |some (m,g) =>
  match x with
  | .osl id ver es off n =>
   match h[id]? with
   |some (.row v k f)=>Qd (v=ver∧es=s∧off+min m n*s≤k∧(∀j,j<min m n*s→(g j).one=true))
     (some (.int .i64 ((min m n:Nat):Int),h.set id (.row v k (Mj off (min m n*s) f g))))
   |_=>none
  |_=>none
theorem gY (e s b:Nat)(x y:AV):gX (some (e,s,b)) x y h=ib (Db s y h) s x h:=C_ rfl
def i9 (o:Option AO)(id ver es off n s m:Nat)(g:Nat→AV)(h:List AO):Option (AV×List AO) :=
 match o with
 |some (.row v k f)=>Qd (v=ver∧es=s∧off+min m n*s≤k∧(∀j,j<min m n*s→(g j).one=true))
     (some (.int .i64 ((min m n:Nat):Int),h.set id (.row v k (Mj off (min m n*s) f g))))
 |_=>none
theorem UL (m s id ver es off n:Nat)(g:Nat→AV):ib (some (m,g)) s (.osl id ver es off n) h=i9 h[id]? id ver es off n s m g h:=C_ rfl
theorem ia (id ver es off n s m v k:Nat)(f g:Nat→AV):i9 (some (.row v k f)) id ver es off n s m g h =
 Qd (v=ver∧es=s∧off+min m n*s≤k∧(∀j,j<min m n*s→(g j).one=true))
     (some (.int .i64 ((min m n:Nat):Int),h.set id (.row v k (Mj off (min m n*s) f g)))):=C_ rfl
def sK (e:Option (TypeId×Nat×Nat)) (x y:AV) (h:List AO):Option (AV×List AO) :=
 match e with
 |none=>none
 |some (_,s,by_) =>
  match Db s y h with
  |none=>none
  |some (m,g) =>
   match x with
   | .osl id ver es off n =>
    match h[id]? with
    |some (.row v k f)=>Qd (v=ver∧es=s∧off=0∧n*s≤k∧(∀j,j<m*s→(g j).one=true)∧(n+m)*by_≤140737488355328∧n+m≤9223372036854775807)
      (some (.osl id (v+1) s 0 (n+m),h.set id (.row (v+1) ((n+m)*s) (Q1 (n*s) f (m*s) g))))
    |_=>none
   | .sl n k f true=>if m=0∧0<n then some (.sl n k f true,h)else Qd (n*s≤k∧(n=0∨0<m)∧(∀j,j<m*s→(g j).one=true)∧(n+m)*by_≤140737488355328∧n+m≤9223372036854775807)
      (some (.osl h.length 0 s 0 (n+m),h ++ [.row 0 ((n+m)*s) (Q1 (n*s) f (m*s) g)]))
   |_=>none
theorem gG (x y:AV):QW P t x y h=sK (AK P t) x y h:=C_ rfl
def gD (o:Option (Nat×(Nat→AV))) (s by_:Nat) (x:AV) (h:List AO):Option (AV×List AO) :=
 match o with
 |none=>none
 |some (m,g) =>
  match x with
  | .osl id ver es off n =>
   match h[id]? with
   |some (.row v k f)=>Qd (v=ver∧es=s∧off=0∧n*s≤k∧(∀j,j<m*s→(g j).one=true)∧(n+m)*by_≤140737488355328∧n+m≤9223372036854775807)
     (some (.osl id (v+1) s 0 (n+m),h.set id (.row (v+1) ((n+m)*s) (Q1 (n*s) f (m*s) g))))
   |_=>none
  | .sl n k f true=>if m=0∧0<n then some (.sl n k f true,h)else Qd (n*s≤k∧(n=0∨0<m)∧(∀j,j<m*s→(g j).one=true)∧(n+m)*by_≤140737488355328∧n+m≤9223372036854775807)
     (some (.osl h.length 0 s 0 (n+m),h ++ [.row 0 ((n+m)*s) (Q1 (n*s) f (m*s) g)]))
  |_=>none
theorem Wx (e s b:Nat)(x y:AV):sK (some (e,s,b)) x y h=gD (Db s y h) s b x h:=C_ rfl
def sM (o:Option AO)(id ver es off n s by_ m:Nat)(g:Nat→AV)(h:List AO):Option (AV×List AO) :=
 match o with
 |some (.row v k f)=>Qd (v=ver∧es=s∧off=0∧n*s≤k∧(∀j,j<m*s→(g j).one=true)∧(n+m)*by_≤140737488355328∧n+m≤9223372036854775807)
     (some (.osl id (v+1) s 0 (n+m),h.set id (.row (v+1) ((n+m)*s) (Q1 (n*s) f (m*s) g))))
 |_=>none
theorem HQ (m s b id ver es off n:Nat)(g:Nat→AV):gD (some (m,g)) s b (.osl id ver es off n) h=sM h[id]? id ver es off n s b m g h:=C_ rfl
theorem gE (m s b n k:Nat)(f g:Nat→AV):gD (some (m,g)) s b (.sl n k f true) h =
 if m=0∧0<n then some (.sl n k f true,h)else Qd (n*s≤k∧(n=0∨0<m)∧(∀j,j<m*s→(g j).one=true)∧(n+m)*b≤140737488355328∧n+m≤9223372036854775807)
     (some (.osl h.length 0 s 0 (n+m),h ++ [.row 0 ((n+m)*s) (Q1 (n*s) f (m*s) g)])):=C_ rfl
theorem Px (id ver es off n s b m v k:Nat)(f g:Nat→AV):sM (some (.row v k f)) id ver es off n s b m g h =
 Qd (v=ver∧es=s∧off=0∧n*s≤k∧(∀j,j<m*s→(g j).one=true)∧(n+m)*b≤140737488355328∧n+m≤9223372036854775807)
     (some (.osl id (v+1) s 0 (n+m),h.set id (.row (v+1) ((n+m)*s) (Q1 (n*s) f (m*s) g)))):=C_ rfl
theorem wO (l:List AV)(i:Nat):Hu l i []=l:=C_ rfl
theorem wM (l:List AV)(i:Nat)(a:AV)(r:List AV):Hu l i (a :: r)=Hu (l.set i a) (i+1) r:=C_ rfl
theorem xm (z:List AV):FP z 0=[]:=C_ rfl
theorem xk (z:List AV)(n:Nat):FP z (n+1)=z ++ FP z n:=C_ rfl
theorem oB (pl:Nat→Option (Nat×Nat)) (l:List AV):Ac pl l []=some l:=C_ (by cases l <;> rfl)
def gv (o:Option (Nat×Nat)) (pl:Nat→Option (Nat×Nat)) (cells:List AV) (v:AV) (rest:List (Nat×AV)):Option (List AV) :=
 match o with
 |some (off,size)=>Qd (v.cells.length=size∧off+size≤cells.length∧v.cells.all AV.one=true) (Ac pl (Hu cells off (v.cells.map AV.loose)) rest)
 |none=>none
theorem oA (pl:Nat→Option (Nat×Nat)) (l:List AV) (i:Nat) (v:AV) (r:List (Nat×AV)):Ac pl l ((i,v) :: r)=gv (pl i) pl l v r:=C_ (by cases l <;> rfl)
theorem gx (pl:Nat→Option (Nat×Nat)) (l:List AV) (v:AV) (r:List (Nat×AV)) (off size:Nat):gv (some (off,size)) pl l v r =
 Qd (v.cells.length=size∧off+size≤l.length∧v.cells.all AV.one=true) (Ac pl (Hu l off (v.cells.map AV.loose)) r):=C_ rfl
def Wy (z:Option (List AV)) (P:Program) (t:TypeId) (parts:List (Nat×AV)):Option AV :=
 match z with
 |some z=>Qd (Aw P t=true) ((Ac (QI P t) z parts).map .agg)
 |none=>none
theorem RN (ps:List (Nat×AV)):G8 P t ps=Wy (Qj P t) P t ps:=C_ rfl
theorem Oe (z:List AV)(ps:List (Nat×AV)):Wy (some z) P t ps=Qd (Aw P t=true) ((Ac (QI P t) z ps).map .agg):=C_ rfl
def RL (e:Option (TypeId×Nat×Nat)) (P:Program) (n:Nat) (parts:List (Nat×AV)):Option AV :=
 match e with
 |some (e,s,_) =>
  match Qj P e with
  |some z=>Qd (n*s≤2 ^ 24) ((Ac (fun i=>some (i*s,s)) (FP z n) parts).map fun l=>.sl n (n*s) (Xf l) true)
  |none=>none
 |none=>none
theorem Of (n:Nat)(ps:List (Nat×AV)):Ki P t n ps=RL (AK P t) P n ps:=C_ rfl
def RM (z:Option (List AV)) (s n:Nat) (parts:List (Nat×AV)):Option AV :=
 match z with
 |some z=>Qd (n*s≤2 ^ 24) ((Ac (fun i=>some (i*s,s)) (FP z n) parts).map fun l=>.sl n (n*s) (Xf l) true)
 |none=>none
theorem LS (e s b n:Nat)(ps:List (Nat×AV)):RL (some (e,s,b)) P n ps=RM (Qj P e) s n ps:=C_ rfl
theorem LU (z:List AV)(s n:Nat)(ps:List (Nat×AV)):RM (some z) s n ps=Qd (n*s≤2 ^ 24) ((Ac (fun i=>some (i*s,s)) (FP z n) ps).map fun l=>.sl n (n*s) (Xf l) true):=C_ rfl
theorem y4 (u:TypeId)(m:Nat)(ps:List (Nat×AV)) (h:List AO) (K:AV→List AO→Prop):xZ false P u m ps h K=Q3 (Ki P u m ps) fun v=>K v h:=C_ rfl
theorem y5 (u:TypeId)(m:Nat)(ps:List (Nat×AV)) (h:List AO) (K:AV→List AO→Prop):xZ true P u m ps h K=Q3 (Zo P u m ps h) fun r=>K r.1 r.2:=C_ rfl
def xA (e:Option (TypeId×Nat×Nat)) (x:Option AV) (h:List AO):Option (AV×List AO) :=
 match e with
 |some (_,s,_) =>
  match x with
  |some (.sl k m f _)=>some (.osl h.length 0 s 0 k,h ++ [.row 0 m f])
  |_=>none
 |none=>none
theorem aP (n:Nat)(ps:List (Nat×AV)) (h:List AO):Zo P t n ps h=xA (AK P t) (Ki P t n ps) h:=C_ rfl
theorem uz (e s b k m:Nat)(f:Nat→AV)(t:Bool)(h:List AO):xA (some (e,s,b)) (some (.sl k m f t)) h=some (.osl h.length 0 s 0 k,h ++ [.row 0 m f]):=C_ rfl
def UZ (a:Option (TypeId×Nat×Nat)) (b:Option IntKind) (P:Program) (x y:AV) (h:List AO):Option (AV×List AO) :=
 match a,b,x,y with
 |some (e,s,by_),some .i64,.sl 0 _ _ true,.int .i64 n =>
  match Qj P e with
  |some z=>Qd (0<n∧by_*n≤140737488355328∧n≤9223372036854775807) (some (.osl h.length 0 s 0 n.toNat,h ++ [.row 0 (n.toNat*s) (KT z)]))
  |none=>none
 |some (e,s,by_),some .i64,.sl (N+1) k f true,.int .i64 n =>
  match Qj P e with
  |some z=>if n=0 then some (.sl (N+1) k f true,h)else Qd (0<n∧(N+1)*s≤k∧by_*(N+1+n)≤140737488355328∧(N:Int)+1+n≤9223372036854775807) (some (.osl h.length 0 s 0 (N+1+n.toNat),h ++ [.row 0 ((N+1+n.toNat)*s) (Q1 ((N+1)*s) f (n.toNat*s) (KT z))]))
  |none=>none
 |some (e,s,by_),some .i64,.osl id ver es off N,.int .i64 n =>
  match Qj P e with
  |some z=>match h[id]? with
   |some (.row v k f)=>if n=0 then some (.osl id ver es off N,h)else Qd (0<n∧0<N∧v=ver∧es=s∧off=0∧N*s≤k∧z.all AV.one=true∧by_*(N+n)≤140737488355328∧(N:Int)+n≤9223372036854775807) (some (.osl id (v+1) s 0 (N+n.toNat),h.set id (.row (v+1) ((N+n.toNat)*s) (Q1 (N*s) f (n.toNat*s) (KT z)))))
   |_=>none
  |none=>none
 |_,_,_,_=>none
theorem F9 (u:TypeId)(x y:AV):K3 P t u x y h=UZ (AK P t) (Vx P u) P x y h:=C_ rfl
def iG (z:Option (List AV)) (s by_ N k:Nat) (f:Nat→AV) (n:Int) (h:List AO):Option (AV×List AO) :=
 match z with
 |some z=>if n=0 then some (.sl (N+1) k f true,h)else Qd (0<n∧(N+1)*s≤k∧by_*(N+1+n)≤140737488355328∧(N:Int)+1+n≤9223372036854775807) (some (.osl h.length 0 s 0 (N+1+n.toNat),h ++ [.row 0 ((N+1+n.toNat)*s) (Q1 ((N+1)*s) f (n.toNat*s) (KT z))]))
 |none=>none
theorem M6 (e s b N k:Nat)(f:Nat→AV)(n:Int):UZ (some (e,s,b)) (some .i64) P (.sl (N+1) k f true) (.int .i64 n) h=iG (Qj P e) s b N k f n h:=C_ rfl
theorem M7 (z:List AV)(s b N k:Nat)(f:Nat→AV)(n:Int):iG (some z) s b N k f n h=if n=0 then some (.sl (N+1) k f true,h)else Qd (0<n∧(N+1)*s≤k∧b*(N+1+n)≤140737488355328∧(N:Int)+1+n≤9223372036854775807) (some (.osl h.length 0 s 0 (N+1+n.toNat),h ++ [.row 0 ((N+1+n.toNat)*s) (Q1 ((N+1)*s) f (n.toNat*s) (KT z))])):=C_ rfl
end
theorem dm (m:Nat)(f:Nat→AV)(o:Nat):(AV.ptr m f o).TAk=true:=C_ rfl
theorem OJ (a b c:Nat):(AV.ref a b c).TAk=true:=C_ rfl
theorem vN (l:List Int):X8 l=.sl l.length l.length (J0 I 0 l) false:=C_ rfl
theorem rH (l:List Nat)(id i:Nat):HB l id i=(l.contains id && !l.contains (1000*id+1000+i)):=C_ rfl
section
variable (m:Nat)
theorem xG:J9 m .any=True:=K_ fun _ v _=>.any v
theorem xH (k:IntKind)(n:Int):J9 m (.int k n)=True:=K_ (X4 (Jn k n))
theorem zF (n:Int):J9 m (I n)=True:=K_ (X4 (X9 n))
theorem uI (b:Bool):J9 m (.bool b)=True:=K_ (X4 (X5 b))
theorem xJ {id v o:Nat}(h:id<m):J9 m (.ref id v o)=True:=K_ (QX h)
theorem xI {id v e o n:Nat}(h:id<m):J9 m (.osl id v e o n)=True:=K_ (JB h)
theorem uJ (l:List Int):J9 m (X8 l)=True:=K_ (X4 (Xc l))
theorem xK (n:Nat)(f:Nat→AV)(t:Bool):J9 m (.sl n 0 f t)=True:=K_ (X4 (QF fun _ h=>absurd h (ZAG _)))
theorem xF {l:List AV}(h:∀a∈l,J9 m a):J9 m (.agg l)=True:=K_ (oO h)
theorem yQ (v n:Nat)(l:List Int):XX m (.row v n (J0 I 0 l))=True:=K_ fun _ _=>X4 (X9 _)
theorem BV {l:List AV}(h:∀ a∈l,J9 m a)(j:Nat):J9 m (Xf l j):=by
 show J9 m (l.getD j .any);rw[K'];by_cases hj:j<l.length
 ·rw[U_ hj];exact h _ (ZAP _)
 ·rw[j_ (by omega)];exact X4 Jm
theorem yR {v n:Nat}{l:List AV}(h:∀a∈l,J9 m a):XX m (.row v n (Xf l))=True:=K_ fun j _=>BV m h j
theorem uH {v n:Nat}{l:List AV}(h:∀a∈l,J9 m a):XX m (.con v n (Xf l))=True:=K_ fun j _=>BV m h j
end
def XK:=XM @xG <| XM @xH <| XM @zF <| XM @uI <| XM @xJ <| XM @xI <| XM @uJ <| XM @xK <| XM @xF <| XM @yQ <| XM @yR <| @uH
def yE:=XM @x_ <| XM @ZAn <| XM @Nat.zero_lt_succ <| XM @Nat.min_self <| XM @Nat.zero_min <| XM @Nat.min_zero <| XM @ZC0 <| XM @ZAo <| XM @ZB0 <| XM @N' <| XM @zZ <| XM @Nat.mul_one <| XM @Bool.false_eq_true <| XM @Bool.true_eq_false <| XM @decide_true <| XM @decide_false <| XM @decide_eq_true_eq <| XM @decide_eq_false_iff_not <| XM @Bool.not_true <| XM @Bool.not_false <| XM @ZDQ <| XM @Bool.not_eq_false' <| XM @Bool.and_true <| XM @ZBF <| XM @Bool.false_and <| XM @true_and <| XM @and_true <| XM @false_and <| XM @and_false <| XM @not_true_eq_false <| XM @not_false_eq_true <| XM @or_true <| XM @true_or <| XM @or_false <| XM @false_or <| XM @Bool.or_false <| XM @Bool.or_true <| XM @Bool.false_or <| XM @Bool.true_or <| XM @Int.natCast_nonneg <| XM @Int.ofNat_lt <| XM @Int.ofNat_le <| XM @Int.ofNat_inj <| @Int.ofNat_zero
def yF:=XM @y4 <| XM @y5 <| XM @aP <| XM @uz <| XM @M6 <| XM @M7 <| XM @oa <| XM @oc <| XM @ur <| XM @ut <| XM @uk <| XM @ul <| XM @tV <| XM @tW <| XM @ug <| XM @uh <| XM @tX <| XM @tZ <| XM @tY <| XM @ud <| XM @ue <| XM @un <| XM @uq <| XM @ua <| XM @ub <| XM @og <| XM @oe <| XM @um <| XM @xw <| XM @xv <| XM @xu <| XM @o8 <| XM @o9 <| XM @oh <| XM @ol <| XM @vV <| XM @ri <| XM @pJ <| XM @pK <| XM @jh <| XM @ji <| XM @jc <| XM @Vg <| XM @jd <| XM @PU <| XM @pv <| XM @uS <| XM @ja <| XM @NX <| XM @NY <| XM @Sr <| XM @cF <| XM @cC <| XM @Me <| XM @jb <| XM @cz <| XM @cG <| XM @py <| XM @pz <| XM @Vf <| XM @oD <| XM @gY <| XM @UL <| XM @ia <| XM @cE <| XM @cD <| XM @mc <| XM @eJ <| XM @Sq <| XM @Sp <| XM @x9 <| XM @x8 <| XM @Bu <| XM @UQ <| XM @KA <| XM @KB <| XM @US <| XM @M2 <| XM @U9 <| XM @U8 <| XM @Iy <| XM @RY <| XM @UN <| XM @Iv <| XM @PE <| XM @RW <| XM @RX <| XM @HU <| XM @PB <| XM @DA <| XM @ig <| XM @RU <| XM @oH <| XM @oI <| XM @kF <| XM @kG <| XM @iE <| XM @UY <| XM @Sa <| XM @Sb <| XM @aY <| XM @aX <| XM @aZ <| XM @oF <| XM @il <| XM @oC <| XM @gV <| XM @wc <| XM @we <| XM @r6 <| XM @r7 <| XM @gy <| XM @aI <| XM @uA <| XM @oG <| XM @ip <| XM @ir <| XM @WH <| XM @iF <| XM @b7 <| XM @gG <| XM @Wx <| XM @HQ <| XM @gE <| XM @Px <| XM @wO <| XM @wM <| XM @xm <| XM @xk <| XM @oB <| XM @oA <| XM @gx <| XM @RN <| XM @Oe <| XM @Of <| XM @LS <| XM @LU <| XM @F9 <| XM @dm <| XM @OJ <| XM @vN <| @rH
end
end Go.Ab
namespace Go.Ab
open Go Go.RowKit
noncomputable section
theorem Marks.TBU {c0 c:Ctx}{l:Nat}{r:Loop}(hk:Kept c l (.loop r)) (o:Obj):∀ {ds:List Deferred},Marks c0 c ds→Marks c0 ⟨c.w.putObj l o,c.S,c.γ,c.H⟩ ds
 | [],_=>trivial
 |_ :: _,⟨⟨D,e,h1,h2,h3⟩,h⟩=>⟨⟨D,e,h1,h2.TCQ (fun e=>by
   have:=h2.1;rw[e,hk.1]at this;cases this) (Jl c.w l o),h3⟩,h.TBU hk o⟩
theorem SI {m:Nat}{c0 c:Ctx}{l:Nat}{o:Obj}(hx:TAc m c0 c)(hl:Ai c0 l):TAc m c0 ⟨c.w.putObj l o,c.S,c.γ,c.H⟩ :=
 ⟨fun id o hid ho=>hx.hle id o hid ho,hx.TAe,hx.TA5,hx.TAx,fun b hb hn=>(Jl c.w l o b (fun e=>hn (e▸hl))).trans (hx.same b hb hn),by rw[ZAz];exact hx.size,hx.os,hx.tape,hx.output⟩
theorem MQ {c:Ctx}{l:Nat}{o o':Obj}(h:Kept c l o):Kept ⟨c.w.putObj l o',c.S,c.γ,c.H⟩ l o':=⟨ZA9 h.lt,h.2.1,h.2.2⟩
theorem Pj {X:Env}{l:Nat}{r:Loop}{k:List Item}{s:AS}(hX:X.rnd=some (l,r)) (ht:X.tok=[]) (hr:r.state=.ready) (h:Run { X with rnd:=some (l,{ r with state:=.busy }) } k s):Run X (.beginRound :: k) s:=by
 intro hm ho hrn c0 c a ds hst hp b cs hf hk hb;have hkp:=hp.rnd l r hX;have hb':b.roundOf=some l:=by rw[hb,hX];rfl
 obtain⟨v,fr,r',c',h1,h2,h3,h4,h5,h6,h7⟩:=h hm (fun i hi=>ho i (List.mem_cons_of_mem _ hi)) (fun _=>hrn (by rw[hX];rfl)) c0 ⟨c.w.putObj l (.loop { r with state:=.busy }),c.S,c.γ,c.H⟩ a ds (hst.TCQ hkp.1)
  ⟨SI hp.ext hkp.2,fun p hp'=>absurd hp' (by show p∉X.tok;rw[ht];exact V'),fun l' r' e=>by cases e;exact⟨MQ hkp.1,hkp.2⟩,hp.marks.TBU hkp.1 _,fun _ _ _ _ e=>by cases e⟩ b cs hf hk hb'
 refine⟨v,fr,r',c',.head (stepR_beginRound hb' (run_beginRound hkp.1.1 hr)) h1,?_,h3,h4,by rw[Dx hX];rw[Dx (X:={ X with rnd:=some (l,{ r with state:=.busy }) }) rfl]at h5;exact h5,?_,h7⟩
 ·unfold nV at h2 ⊢
  rw[hX];exact h2
 ·intro l' r'' e
  rw[hX]at e;cases e;obtain⟨st,pe,hq⟩:=h6 l _ rfl;exact⟨st,pe,hq⟩
def YK (s:AS):List Nat→List AV→AS
 |p :: ps,v :: vs=>YK (s.put p v) ps vs
 |_,_=>s
def SD (P:Program)(fn:Func)(str hcs:List Nat)(m l:Nat)(r:Loop)(H':List AO):Env:=⟨P,fn,888888 :: str,hcs,m,some (l,r),[],none,fun _ H=>H.take m=H'⟩
def kZ:Loop:={ state:=.ready,pending:=none,fn:=0,tmps:=#[],params:=#[],assign:=.skip,body:=.skip,defers:=0 }
def tP (c:Code):Loop:={ kZ with pending:=some c }
def ze (q:Option Code):Option (Nat×Loop×Loop):=match q with |none=>none |some c=>some (0,kZ,tP c)
def kP (q:Option Code):Prop:=∀c,q=some c→c=.ret∨∃id,c=.exit id
def R6 (P:Program)(fn:Func)(str hcs:List Nat)(m l:Nat)(r:Loop)(H':List AO)(q:Option Code):Env:=⟨P,fn,888888 :: str,hcs,m,some (l,r),[],ze q,fun _ H=>H.take m=H'⟩
def KD (r:Loop):Option Code→Loop
 |none=>r
 |some c=>{ r with state:=.done,pending:=some c }
theorem BK {w:World}{l:Nat}{o:Obj}(h:w.heap[l]?=some o):w.putObj l o=w:=by
 unfold World.putObj;have:w.heap.setIfInBounds l o=w.heap:=by
  apply Array.ext_getElem?;intro i;rw[Array.getElem?_setIfInBounds]
  split
  ·rename_i e;subst e
   split
   ·exact h.symm
   ·rename_i hn;rw[Array.getElem?_eq_none (by omega)]
  ·rfl
 rw[this]
theorem Cp (w:World)(l:Nat)(o o':Obj):(w.putObj l o).putObj l o'=w.putObj l o':=by
 unfold World.putObj;simp
def YC (P:Program)(t:Tok)(q:Option Code)(args:List AV)(H H':List AO):Prop :=
 ∀ (c:Ctx) (vs:Array Value),c.H=H→I' c→TAT c t→TAF c vs args→∃f tmps assign body,(Instr.yield t.l vs).run P c.w=.ok (.round t.l f tmps assign body) c.w ∧
  RoundIn ZB1 0 P t.l f tmps assign body c.w fun e w'=>∃S' γ',e=.returned (.bool q.isNone)∧w'.heap[t.l]?=some (.loop (KD t.r q))∧I' ⟨w'.putObj t.l (.loop t.r),S',γ',H'⟩∧Ext c ⟨w'.putObj t.l (.loop t.r),S',γ',H'⟩
theorem YC.call {P:Program}{t:Tok}{args:List AV}{H H':List AO}(h:YC P t none args H H'):TBf P t args H (.bool true) H':=by
 intro c vs h1 h2 h3 h4;obtain⟨f,tmps,assign,body,k1,k2⟩:=h c vs h1 h2 h3 h4;refine⟨f,tmps,assign,body,k1,k2.mono ?_⟩;rintro e w' ⟨S',γ',rfl,q1,q2,q3⟩;rw[show KD t.r none=t.r from rfl]at q1;rw[BK q1]at q2 q3;exact⟨.bool true,S',γ',rfl,.bool true,q2,q3⟩
structure TBs (P:Program)(fn:Func)(ps:Array Nat)(assign body:Code)(s:AS)(t:Tok):Prop where
 st:t.r.state=.ready
 pe:t.r.pending=none
 fc:P.funcs[t.r.fn]?=some fn
 ps:t.r.params=ps
 as:t.r.assign=assign
 bd:t.r.body=body
 at':∃a:Act,t.r.tmps=a.tmps∧St fn.ntmps t.ce a s
 ch:t.ce.H=s.h
theorem YM {N:Nat}{c:Ctx}:∀ (ps:List Nat) (vs:List Value) (es:List AV) (a:Act) (s:AS),St N c a s→ps.length=es.length→vs.length=es.length→(∀j,j<es.length→Rep c (vs.getD j undef) (es.getD j .any))→(∀p∈ps,p<N) →
  St N c { tmps:=(ps.zip vs).foldl (fun t q=>t.setIfInBounds q.1 q.2) a.tmps,defers:=a.defers } (YK s ps es)
 | [],vs,es,a,s,hst,_,_,_,_=>by simp only[List.zip_nil_left,List.foldl_nil];exact hst
 |p :: ps,[],es,a,s,hst,h1,h2,_,_=>by simp at h1 h2;omega
 |p :: ps,v :: vs,[],a,s,hst,h1,h2,_,_=>by simp at h1
 |p :: ps,v :: vs,e :: es,a,s,hst,h1,h2,h3,h4=>by
  have hp:=hst.E' (Ext.refl c) hst.H_ (d:=some p) (x:=v) (v:=e) (by simpa using h3 0 (by simp)) (fun i hi=>by cases hi;exact h4 p (by simp));have hs:({ s with h:=c.H }:AS)=s:=by rw[hst.heap]
  rw[hs]at hp;exact YM ps vs es (a.put (some p) v) (s.put p e) hp (by simpa using h1) (by simpa using h2) (fun j hj=>by simpa using h3 (j+1) (by simpa using hj)) (fun q hq=>h4 q (by simp[hq]))
theorem Is (ps:Array Nat)(vs:Array Value)(t:Array Value):(ps.zip vs).foldl (fun t (q:Nat×Value)=>t.setIfInBounds q.1 q.2) t=(ps.toList.zip vs.toList).foldl (fun t q=>t.setIfInBounds q.1 q.2) t:=by
 rw[←Array.foldl_toList,Array.toList_zip]
theorem NF {P:Program}(q:Option Code)(hq:kP q){fn:Func}{ps:Array Nat}{assign body:Code}{s:AS}{t:Tok}{str hcs:List Nat}{elt:List AV}{H H':List AO}(hl:TBs P fn ps assign body s t)(hm:P.follows .mixedOrders=true)
  (hok:QO fn.ntmps (888888 :: str) hcs assign=true) (TD1:QO fn.ntmps (888888 :: str) hcs body=true) (hps:elt.length=ps.size) (hpN:∀p∈ps.toList,p<fn.ntmps) (hO:∀o∈H',XX H.length o)
  (I_:∀l r,r.state=.ready→Run (R6 P fn str hcs H.length l r H' q) [.code assign,.beginRound,.code body] (YK { s with h:=H } ps.toList elt)):YC P t q elt H H':=by
 rintro c vs rfl hr ⟨hkc,J'⟩ hv;obtain⟨a,hat,TD2⟩:=hl.at';have hsz:vs.size=t.r.params.size:=by rw[hv.1,hps,hl.ps]
 refine⟨t.r.fn,_,t.r.assign,t.r.body,run_yield hkc.1 hsz,trivial,fun cf cs _=>?_⟩;have TBZ:St fn.ntmps c { tmps:=a.tmps,defers:=[] } { s with h:=c.H } :=
  ⟨TD2.size,rfl,fun i=>J'.rep TD2.H_ (TD2.TAP i),rfl,hr⟩
 have TCs:=YM ps.toList vs.toList elt _ _ TBZ (by simp[hps]) (by simp[hv.1]) (fun j hj=>by
  have:=hv.2 j hj
  simpa [r_,K']using this) hpN
 rw[←Is]at TCs;obtain⟨c0,hc0⟩:∃c0:Ctx,c0=⟨c.w,c.S,fun id=>if id=c.H.length then some (t.l,0)else c.γ id,c.H ++ [.map .i64 fun _=>none]⟩:=⟨_,rfl⟩
 have TAO:Ai c0 t.l:=⟨c.H.length,.map .i64 fun _=>none,0,by rw[hc0];simp,rfl,by rw[hc0];simp⟩
 have TC1:∀b,Ai c0 b→Ai c b∨b=t.l:=by
  rintro b ⟨id,o,sz,ho,h1,h2⟩;rw[hc0]at ho h2;simp only at ho h2;by_cases hid:id=c.H.length
  ·rw[N_ hid]at h2;cases h2;exact .inr rfl
  ·rw[M_ hid]at h2
   have hlt:id<c.H.length:=by
    have:=(R_.1 ho).1;simp at this;omega
   rw[S_ hlt]at ho;exact .inl ⟨id,o,sz,ho,h1,h2⟩
 have TC2:∀ (id:Nat),id<c.H.length→c0.H[id]?=c.H[id]?∧c0.γ id=c.γ id:=fun id hid=>by
  rw[hc0];exact⟨S_ hid,by show(if id=c.H.length then _ else _)=_;rw[M_ (by omega)]⟩
 have hx0:TAc c.H.length c0 c:=by
  refine⟨?_,fun b hb=>by rw[hc0]at hb;exact hb,fun b hb=>.inl (by rw[hc0];exact hb),fun b hb=>.inr ?_,fun b _ _=>by rw[hc0],by rw[hc0];exact N' _,by rw[hc0],by rw[hc0],by rw[hc0]⟩
  ·intro id o hid ho
   obtain⟨e1,e2⟩:=TC2 id hid;rw[e1]at ho;have:=HLe.refl c id o ho;cases o <;> (first |trivial |exact this | (dsimp only at this ⊢;rw[e2];exact this))
  ·obtain⟨id,o,sz,ho,h1,h2⟩:=hb
   have hlt:=(R_.1 ho).1;obtain⟨e1,e2⟩:=TC2 id hlt;exact⟨id,o,sz,e1.trans ho,h1,e2.trans h2⟩
 let b:Frame:={ (default:Frame)with fn:=t.r.fn,kind:=.normal,roundOf:=some t.l }
 have hb0:∀tm:Array Value,Frame.round t.l t.r.fn tm t.r.assign t.r.body .normal=b.atR { ({ tmps:=tm,defers:=[] }:Act)with defers:=[] } [.code assign,.beginRound,.code body]:=fun tm=>by
  simp[Frame.round,Frame.atR,b,hl.as,hl.bd]
 obtain⟨v,fr,r',c',h1,h2,h3,h4,h5,h6,h7⟩:=I_ t.l t.r hl.st hm (by
   intro i hi;simp only[b_,V',or_false]at hi;rcases hi with rfl |rfl |rfl
   ·exact hok
   ·rfl
   ·exact TD1) (fun _=>by simp[R6]) c0 c _ [] TCs ⟨hx0,fun p hp=>absurd hp V',fun l r e=>by cases e;exact⟨hkc,TAO⟩,trivial,fun _ _ _ _ e=>by cases e⟩ b (cf :: cs) hl.fc rfl rfl
 rw[Dx (q:=(t.l,t.r)) rfl]at h5;obtain⟨st,pe,hke⟩:=h6 t.l t.r rfl;have TFU:({ t.r with state:=.ready,pending:=none }:Loop)=t.r:=by
  conv=>lhs;rw[←hl.st,←hl.pe]
 have TCn:step P (lone fr (cf :: cs) c'.w)=.next (lone (cf.finish (.bool q.isNone)) cs (c'.w.putObj t.l (.loop (KD t.r q)))):=by
  cases q with
  |none =>
   obtain⟨a',rfl⟩:∃a':Act,fr=b.atR { a' with defers:=[] } []:=h2;have TAn:=run_endRound (P:=P) none hke.1;simp only[Option.isNone_none,if_true]at TAn;rw[show({ ({ t.r with state:=st,pending:=pe }:Loop)with state:=.ready,pending:=none }:Loop)={ t.r with state:=.ready,pending:=none } from rfl,TFU]at TAn;exact stepR_round_end (P:=P) (b:=b) (a:={ a' with defers:=[] }) (cs:=cs) (c:=cf) rfl rfl TAn
  |some c0 =>
   obtain⟨a',k',rfl,hx⟩:∃ (a':Act) (k':List Item),fr=b.atR { a' with defers:=[] } (.code c0 :: k')∧∀id,some c0=some (.exit id)→exitTo id k'=none:=h2;have TAn:=run_endRound (P:=P) (some c0) hke.1;rcases hq c0 rfl with rfl | ⟨id,rfl⟩
   ·exact stepR_round_ret (P:=P) (b:=b) (a:={ a' with defers:=[] }) (k:=k') (cs:=cs) (c:=cf) rfl rfl TAn
   ·exact stepR_round_exit (P:=P) (b:=b) (a:={ a' with defers:=[] }) (k:=k') (cs:=cs) (c:=cf) rfl rfl (hx id rfl) TAn
 obtain⟨w4,hw4⟩:∃w4,w4=c'.w.putObj t.l (.loop t.r):=⟨_,rfl⟩
 have TC3:∀b,b≠t.l→w4.heap[b]?=c'.w.heap[b]?:=fun b hb=>by rw[hw4];exact Jl _ _ _ b hb
 have hto:c'.H.take c.H.length=H':=h7;have TEe:∀ (id:Nat),id<c.H.length→H'[id]?=c'.H[id]?:=fun id hid=>by rw[←hto,ZAV,N_ hid]
 have TDK:∀ (id:Nat) (o:AO),H'[id]?=some o→c'.H[id]?=some o∧id<c.H.length:=fun id o ho=>by
  rw[←hto,ZAV]at ho
  split at ho
  ·exact⟨ho,by assumption⟩
  ·cases ho
 have TEf:I' ⟨w4,c'.S,c'.γ,H'⟩:=by
  have h8:=Fp h4 c.H.length (by rw[hto];exact hO);rw[hto]at h8;exact Fo (c:=⟨c'.w,c'.S,c'.γ,H'⟩) (l:=t.l) h8 hke.2.1 (fun⟨id,o,sz,ho,q1,q2⟩=>hke.2.2 ⟨id,o,sz,(TDK id o ho).1,q1,q2⟩) (by rw[hw4];simp) (fun b hb _=>TC3 b hb)
 have hw5:(c'.w.putObj t.l (.loop (KD t.r q))).putObj t.l (.loop t.r)=w4:=by rw[hw4,Cp]
 refine⟨.returned (.bool q.isNone),c'.w.putObj t.l (.loop (KD t.r q)),⟨c'.S,c'.γ,rfl,ZA9 hke.lt,by rw[hw5];exact TEf,?_⟩,?_⟩;rw[hw5]
 ·refine⟨?_,fun b hb=>h5.TAe b (by rw[hc0];exact hb),fun b hb=>?_,fun b hb=>?_,fun b hb hn=>?_,?_,?_,?_,?_⟩
  ·intro id o ho
   have hid:=(R_.1 ho).1;obtain⟨e1,e2⟩:=TC2 id hid;have hh:=h5.hle id o hid (e1.trans ho);have e3:=TEe id hid;have e4:inf H' id=inf c'.H id:=by unfold inf;rw[e3]
   cases o <;> simp only at hh ⊢ <;> (try rw[e2]at hh) <;> (try rw[e3]) <;> (try rw[e4]) <;> exact hh
  ·rcases h5.TA5 b hb with q |q |q
   ·exact .inl (by rw[hc0]at q;exact q)
   ·exact .inr (.inl (by rw[hc0]at q;exact q))
   ·rcases TC1 b q with q |rfl
    ·exact .inr (.inr q)
    ·exact absurd hb hke.2.1
  ·have hb':Ai c' b:=by obtain⟨id,o,sz,ho,q1,q2⟩:=hb;exact⟨id,o,sz,(TDK id o ho).1,q1,q2⟩
   rcases h5.TAx b hb' with q |q
   ·exact .inl (by rw[hc0]at q;exact q)
   ·rcases TC1 b q with q |rfl
    ·exact .inr q
    ·exact absurd hb' hke.2.2
  ·by_cases he:b=t.l
   ·subst he
    show w4.heap[t.l]?=_;rw[hkc.1,hw4];exact ZA9 hke.lt
   ·show w4.heap[b]?=_
    rw[TC3 b he,h5.same b (by rw[hc0];exact hb) (fun q=>(TC1 b q).elim hn he),hc0]
  ·have:=h5.size
   rw[hc0]at this;show _≤w4.heap.size;rw[hw4,ZAz];exact this
  ·have:=h5.os;rw[hc0]at this;rw[hw4];exact this
  ·have:=h5.tape;rw[hc0]at this;rw[hw4];exact this
  ·have:=h5.output;rw[hc0]at this;rw[hw4];exact this
 ·show StepsIn _ _ _ _
  refine stepsIn_wide.2 ?_;have e5:=hb0 ((t.r.params.zip vs).foldl (fun tmps (q:Nat×Value)=>tmps.setIfInBounds q.1 q.2) t.r.tmps);rw[e5];rw[hl.ps,hat];exact ZDf h1 (.one TCn)
theorem Ux {P:Program}{fn:Func}{ps:Array Nat}{assign body:Code}{s:AS}{t:Tok}{str hcs:List Nat}{elt:List AV}{H H':List AO}(hl:TBs P fn ps assign body s t)(hm:P.follows .mixedOrders=true)
  (hok:QO fn.ntmps (888888 :: str) hcs assign=true) (TD1:QO fn.ntmps (888888 :: str) hcs body=true) (hps:elt.length=ps.size) (hpN:∀p∈ps.toList,p<fn.ntmps) (hO:∀o∈H',XX H.length o)
  (I_:∀l r,r.state=.ready→Run (SD P fn str hcs H.length l r H') [.code assign,.beginRound,.code body] (YK { s with h:=H } ps.toList elt)):TBf P t elt H (.bool true) H' :=
 (NF none (fun c e=>by cases e) hl hm hok TD1 hps hpN hO I_).call
theorem TAT.cut {c:Ctx}{t:Tok}{H1 rest:List AO}(h:TAT c t)(hH:c.H=H1 ++ rest)(hm:t.ce.H.length≤H1.length):TAT ⟨c.w,c.S,c.γ,H1⟩ t:=by
 have TCc:∀b,Ai ⟨c.w,c.S,c.γ,H1⟩ b→Ai c b:=fun b ⟨id,o,sz,ho,TAO,hg⟩=>⟨id,o,sz,by
  rw[hH,S_ (R_.1 ho).1];exact ho,TAO,hg⟩
 refine⟨⟨h.1.1,h.1.2.1,fun q=>h.1.2.2 (TCc _ q)⟩,⟨fun id o ho=>?_,h.2.TAe,h.2.TA5,fun b q=>h.2.TAx b (TCc b q),h.2.same,h.2.size,h.2.os,h.2.tape,h.2.output⟩⟩;have hlt:=(R_.1 ho).1;have e3:c.H[id]?=H1[id]?:=by rw[hH,S_ (by omega)]
 have e4:inf c.H id=inf H1 id:=by unfold inf;rw[e3]
 have hh:=h.2.hle id o ho;cases o <;> simp only at hh ⊢ <;> (try rw[e3]at hh) <;> (try rw[e4]at hh) <;> exact hh
theorem TBf.frame {P:Program}{t:Tok}{args:List AV}{H1 H1':List AO}{v:AV}(h:TBf P t args H1 v H1')(hlen:H1'.length=H1.length)(hce:t.ce.H.length≤H1.length)(hb:∀ a∈args,J9 H1.length a)(hO:∀ o∈H1,XX H1.length o)(rest:List AO) :
  TBf P t args (H1 ++ rest) v (H1' ++ rest):=by
 intro c vs hH hr ht hv;have TA4:c.H.take H1.length=H1:=by rw[hH];simp
 have hr1:I' ⟨c.w,c.S,c.γ,H1⟩:=by
  have:=Fp hr H1.length (by rw[TA4];exact hO);rwa[TA4]at this
 have hv1:TAF ⟨c.w,c.S,c.γ,H1⟩ vs args:=⟨hv.1,fun j hj=>by
  have TAU:args.getD j .any∈args:=by rw[K',U_ hj];exact ZAP _
  have:=hb _ TAU c _ (hv.2 j hj);rwa[TA4]at this⟩
 obtain⟨f,tmps,assign,body,h1,h2⟩:=h ⟨c.w,c.S,c.γ,H1⟩ vs rfl hr1 (ht.cut hH hce) hv1;refine⟨f,tmps,assign,body,h1,h2.mono ?_⟩;rintro e w' ⟨x,S',γ',rfl,hx,hr',J'⟩;obtain⟨γ2,k1,k2,k3⟩:=Gh hH hr hlen hx hr' J';exact⟨x,S',γ2,rfl,k1,k2,k3⟩
theorem Va {X:Env}{M:Md}{o:Oper}{t:Tok}{l:Nat}{args as':List AV}{K:AS→Prop}{s:AS}{r:AV}{H1 H1' rest:List AO}(hb:M.B'=true)(hl:t.l=l)(TAU:t∈X.tok)(h:TBf X.P t as' H1 r H1')(hs:s.h=H1 ++ rest)(hlen:H1'.length=H1.length)(hce:t.ce.H.length≤H1.length)
  (TCd:∀a∈as',J9 H1.length a) (hO:∀o∈H1,XX H1.length o) (TCS:∀o∈H1,o≠.D_) (TFV:∀o∈H1',o≠.D_) (TBq:K1 H1 H1') (ha:TAR args as')
  (hK:K (({ s with h:=H1' ++ rest }:AS).E' o.dst r)):Gy X M o (.yld l) args K s:=by
 subst hl;have TEg:s.h.drop H1.length=rest:=by rw[hs];simp
 have hat:∀id:Nat,s.h[id]?=some .D_→¬id<H1.length:=fun id hid hlt=>by
  rw[hs,S_ hlt]at hid;exact TCS _ (ZAC hid) rfl
 have TD3:∀h2,gu s.h h2→h2=H1 ++ h2.drop H1.length:=by
  intro h2 ho;have:h2.take H1.length=H1:=by
   apply ZAg;intro i;rw[ZAV];by_cases hi:i<H1.length
   ·rw[N_ hi,ho i (by rw[hs,S_ hi];intro e;exact TCS _ (ZAC e) rfl),hs,S_ hi]
   ·rw[M_ hi,j_ (by omega)]
  conv=>lhs;rw[←List.take_append_drop H1.length h2,this]
 refine⟨r,H1' ++ rest,⟨.inr t.l,args,rfl,.inr (.inr ⟨hb,as',ha,fun h2=>H1' ++ h2.drop H1.length,fun h2 ho=>?_,by show H1' ++ s.h.drop H1.length=_;rw[TEg],?_,?_,?_⟩)⟩,hK⟩
 ·have:=h.frame hlen hce TCd hO (h2.drop H1.length)
  rw[←TD3 h2 ho]at this;exact⟨t,TAU,rfl,this⟩
 ·intro id v n f
  rw[hs];by_cases hi:id<H1.length
  ·rw[S_ hi,S_ (by omega)];exact TBq id v n f
  ·rw[d_ (by omega),d_ (by omega),hlen]
 ·intro h2 id ob ho hid
  have hge:=hat id hid;show H1' ++ (h2.set id ob).drop H1.length=(H1' ++ h2.drop H1.length).set id ob;rw[ZAj _ _ (by omega),hlen,List.drop_set,M_ (by omega)]
 ·intro id hid
  have hge:=hat id hid;rw[hs]at hid;rw[d_ (by omega)]at hid ⊢;rw[hlen];exact hid
def TBb (P:Program)(t:Tok)(q:Option Code)(f:FuncId)(args:List AV)(H H':List AO):Prop :=
 Cf P f∧∀ (c:Ctx) (vs:Array Value),c.H=H→I' c→TAT c t→TAF c vs args→Calls P f vs c.w fun e w'=>∃v S' γ',e=.returned v∧w'.heap[t.l]?=some (.loop (KD t.r q))∧I' ⟨w'.putObj t.l (.loop t.r),S',γ',H'⟩∧Ext c ⟨w'.putObj t.l (.loop t.r),S',γ',H'⟩
def TBt (P:Program)(t:Tok)(f:FuncId)(args:List AV)(H H':List AO):Prop:=TBb P t none f args H H'
def Vm (P:Program)(fn:Func)(str hcs:List Nat)(t:Tok)(m:Nat)(H':List AO):Env:=⟨P,fn,str,hcs,m,none,[t],none,fun _ H=>H.take m=H'⟩
def jB (P:Program)(fn:Func)(str hcs:List Nat)(t:Tok)(q:Code)(m:Nat)(H':List AO):Env:=⟨P,fn,str,hcs,m,none,[t],some (t.l,t.r,KD t.r (some q)),fun _ H=>H.take m=H'⟩
def yg (P:Program)(fn:Func)(str hcs:List Nat)(m:Nat)(H':List AO):Env:=⟨P,fn,str,hcs,m,none,[],none,fun _ H=>H.take m=H'⟩
theorem WS {m:Nat}{w':World}{S':Nat→Prop}{γ':Nat→Option (Nat×Nat)} {H'' H':List AO} {c:Ctx} (hm:m=c.H.length) (hO:∀o∈H',XX m o) (h2:I' ⟨w',S',γ',H''⟩) (h3:TAc m c ⟨w',S',γ',H''⟩) (h4:H''.take m=H') :
  ∃S2 γ2,I' ⟨w',S2,γ2,H'⟩∧Ext c ⟨w',S2,γ2,H'⟩:=by
 subst hm;have hst:St 0 ⟨w',S',γ',H''⟩ { tmps:=#[],defers:=[] } ⟨0,[],[],[],H''⟩:=⟨rfl,rfl,fun i=>.any _,rfl,h2⟩
 obtain⟨c',hw,hx,TAt⟩:=XD (b:=c.H.length) (m:=c.H.length) (s:=⟨0,[],[],[],H''⟩) (s':=⟨0,[],[],[],H''.take c.H.length⟩) (N' _) rfl trivial trivial rfl (by simp) (by simp) (by rw[←h4]at hO;exact hO) _ _ _ hst;have hH:=TAt.heap;have H_:=TAt.H_;obtain⟨w2,S2,γ2,H2⟩:=c';cases hw;cases hH;rw[←h4];exact⟨S2,γ2,H_,(h3.trans hx).TCI (N' _)⟩
theorem TBt.intro {P:Program}{f:FuncId}{fn:Func}{body:Code}(he:Cf P f)(hf:P.funcs[f]?=some fn)(hb:fn.body=some body)(hm:P.follows .mixedOrders=true){args:List AV}{t:Tok}{H H':List AO}
  (n0:Nat) (hid str hcs:List Nat) (hok:QO fn.ntmps str hcs body=true) (hlen:args.length≤fn.ntmps) (hce:t.ce.H.length≤H.length) (hO:∀o∈H',XX H.length o)
  (h:Run (Vm P fn str hcs t H.length H') [.code body] (AS.start n0 hid args H)):TBt P t f args H H':=by
 refine⟨he,?_⟩;rintro c vs rfl hrc htk hv;refine BW (X:=Vm P fn str hcs t c.H.length H') hf hb hm hok rfl hrc hv hlen h (fun p hp=>?_) ?_
 ·obtain rfl:p=t:=by simpa [Vm]using hp
  exact⟨htk,hce⟩
 rintro v r' ⟨w',S',γ',H''⟩ h1 h2 h3 h4;obtain⟨S2,γ2,k1,k2⟩:=WS rfl hO h2 h3 h4;have hq:=(htk.1.ext (k2.toB 0)).1;refine⟨v,S2,γ2,rfl,hq,?_,?_⟩ <;> rw[BK hq]
 ·exact k1
 ·exact k2
theorem TBb.intro {P:Program}{f:FuncId}{fn:Func}{body:Code}(he:Cf P f)(hf:P.funcs[f]?=some fn)(hb:fn.body=some body)(hm:P.follows .mixedOrders=true){args:List AV}{t:Tok}{H H':List AO}
  (q:Code) (n0:Nat) (hid str hcs:List Nat) (hok:QO fn.ntmps str hcs body=true) (hlen:args.length≤fn.ntmps) (hce:t.ce.H.length≤H.length) (hO:∀o∈H',XX H.length o)
  (h:Run (jB P fn str hcs t q H.length H') [.code body] (AS.start n0 hid args H)):TBb P t (some q) f args H H':=by
 refine⟨he,?_⟩;rintro c vs rfl hrc htk hv;refine FT (X:=jB P fn str hcs t q c.H.length H') hf hb hm hok rfl hrc hv hlen h (fun p hp=>?_) (fun l r r1 e=>by cases e;exact htk.1) ?_
 ·obtain rfl:p=t:=by simpa [jB]using hp
  exact⟨htk,hce⟩
 rintro v r' ⟨w',S',γ',H''⟩ h1 h2 ⟨h3,h3'⟩ h4;obtain⟨S2,γ2,k1,k2⟩:=WS rfl hO (Fo (c:=⟨w',S',γ',H''⟩) (l:=t.l) h2 h3.2.1 h3.2.2 (by simp) fun b hb _=>Jl w' t.l _ b hb) h3' h4;exact⟨v,S2,γ2,rfl,h3.1,k1,k2⟩
theorem I7 {m:Nat}{c c':Ctx}{l:Nat}{o:Obj}(h:TAc m c c')(hl:l<c.w.heap.size):TAc m ⟨c.w.putObj l o,c.S,c.γ,c.H⟩ ⟨c'.w.putObj l o,c'.S,c'.γ,c'.H⟩:=by
 have hs:=h.size;refine⟨h.hle,h.TAe,fun b hb=>?_,fun b hb=>?_,fun b hb hn=>?_,?_,h.os,h.tape,h.output⟩
 ·rw[ZAz];exact h.TA5 b hb
 ·rw[ZAz];exact h.TAx b hb
 ·rw[ZAz]at hb
  by_cases e:b=l
  ·subst e
   rw[ZA9 hl,ZA9 (by omega)]
  ·rw[Jl _ _ _ b e,Jl _ _ _ b e];exact h.same b hb hn
 ·rw[ZAz,ZAz];exact hs
theorem YC.frame {P:Program}{t:Tok}{q:Option Code}{args:List AV}{H1 H1':List AO}(h:YC P t q args H1 H1')(hlen:H1'.length=H1.length)(hce:t.ce.H.length≤H1.length)(hb:∀ a∈args,J9 H1.length a)(hO:∀ o∈H1,XX H1.length o)(rest:List AO) :
  YC P t q args (H1 ++ rest) (H1' ++ rest):=by
 intro c vs hH hr ht hv;have TA4:c.H.take H1.length=H1:=by rw[hH];simp
 have hr1:I' ⟨c.w,c.S,c.γ,H1⟩:=by
  have:=Fp hr H1.length (by rw[TA4];exact hO);rwa[TA4]at this
 have hv1:TAF ⟨c.w,c.S,c.γ,H1⟩ vs args:=⟨hv.1,fun j hj=>by
  have TAU:args.getD j .any∈args:=by rw[K',U_ hj];exact ZAP _
  have:=hb _ TAU c _ (hv.2 j hj);rwa[TA4]at this⟩
 obtain⟨f,tmps,assign,body,h1,h2⟩:=h ⟨c.w,c.S,c.γ,H1⟩ vs rfl hr1 (ht.cut hH hce) hv1;refine⟨f,tmps,assign,body,h1,h2.mono ?_⟩;rintro e w' ⟨S',γ',rfl,hq,hr',J'⟩;obtain⟨γ2,k1,k2,k3⟩:=Gh hH hr hlen (x:=.bool q.isNone) (v:=.bool q.isNone) (.bool _) hr' J';exact⟨S',γ2,rfl,hq,k2,k3⟩
theorem TAb.app {P:Program}{tok:List Tok}{strict:Nat→Bool}{B':Bool}{nid:Nat→Option Nat}{all:Array Oper}{N:Nat}{ro:Option Nat}{ds:List Deferred}(hN:∀ o∈all.toList,∀ i,o.dst=some i→i<N){Q:Exit→Act→World→Prop}{l2:List Nat}:∀ (l:List Nat) {s s':AS} {c:Ctx} {a:Act},St N c a s→(∀p∈tok,TAT c p) →
  TAb P tok strict B' nid all l s s'→(∀a' c',St N c' a' s'→Ext c c'→wpOpsIn (A0 ro) 0 P all Q l2 { a' with defers:=ds } c'.w)→wpOpsIn (A0 ro) 0 P all Q (l ++ l2) { a with defers:=ds } c.w
 | [],s,s',c,a,hst,TAj,h,hQ=>by
  cases h;exact hQ a c hst (Ext.refl c)
 |i :: l,s,s',c,a,hst,TAj,h,hQ=>by
  obtain⟨s1,h1,h2⟩:=h;rw[g_,wpOpsIn_cons];refine h1.sound hst TAj hN fun a' c' TAt hx=>?_
  exact TAb.app hN l TAt (fun p hp=>(TAj p hp).ext hx) h2 fun a'' c'' TCN hx'=>hQ a'' c'' TCN (hx.trans hx')
theorem Marks.size {c0 c1 c:Ctx}(h:c1.w.heap.size=c0.w.heap.size):∀ {ds:List Deferred},Marks c0 c ds→Marks c1 c ds
 | [],_=>trivial
 |_ :: _,⟨⟨D,e,h1,h2,h3⟩,k⟩=>⟨⟨D,e,by rw[h];exact h1,h2,h3⟩,k.size h⟩
def xz (P:Program)(t:Tok)(q:Code)(all:Array Oper)(o:Oper)(s s1:AS):Prop :=
 TAv all s o=some true∧∃f args ts as' H',o.op=.call { callee:=.value f,args:=args,argTypes:=ts }∧s.ev f=.yld t.l∧TAR (args.toList.map s.ev) as'∧YC P t (some q) as' s.h H'∧s1=({ s with h:=H' }:AS).E' o.dst (.bool false)
theorem rs {X:Env}{t:Tok}{q:Code}{id:Nat}{ops:Array Oper}{k:List Item}{s s1 s2 s3:AS}{l1 l2:List Nat}{j:Nat}{o:Oper}(hX:X.out=some (t.l,t.r,KD t.r (some q))) (hrn:X.rnd=none) (htk:t∈X.tok) (hl:List.range ops.size=l1 ++ j :: l2) (hj:ops[j]?=some o)
  (h1:TAb X.P X.tok (fun _=>false) true (fun _=>none) ops l1 s.clr s1) (h2:xz X.P t q ops o s1 s2) (h3:TAb X.P [] (fun _=>false) true (fun _=>none) ops l2 s2 s3)
  (h:Run ⟨X.P,X.fn,X.str,X.hcs,X.base,none,[],none,X.Q⟩ k s3):Run X (.code (.region id ops false) :: k) s:=by
 intro hm ho TAp c0 c a ds hst hp b cs hf hk hb;have hok:=(Qy.1 ho).1;simp only[ZB,QO,w_]at hok;have hN:=Gn hok.1;have hN':∀i,o.dst=some i→i<X.fn.ntmps:=hN o (by simpa using Array.mem_of_getElem? hj);have TAj:∀p∈X.tok,TAT c p:=fun p hp'=>(hp.tok p hp').1
 have key:(Code.region id ops false).wpIn (A0 (X.rnd.map (·.1))) 0 X.P (fun e a' w'=>e=.normal∧∃ (a1:Act) (c':Ctx),a'={ a1 with defers:=ds }∧c'.w=w'∧St X.fn.ntmps c' a1 s3∧Kept c' t.l (.loop (KD t.r (some q)))∧Ext c ⟨c'.w.putObj t.l (.loop t.r),c'.S,c'.γ,c'.H⟩) { a with defers:=ds } c.w:=by
  refine wpIn_region ?_;rw[hl];refine TAb.app hN l1 hst.clr TAj h1 fun a1 c1 TBZ hx1=>?_
  rw[wpOpsIn_cons];unfold wpOpIn;simp only[hj];obtain⟨hg,f,args,ts,as',H',hop,hfv,hw,hy,rfl⟩:=h2;rw[show Region.wanted o (yielded ops ({ a1 with defers:=ds }:Act).tmps)=true from Gx TBZ hN hg];simp only[if_true];unfold Oper.wpIn;refine⟨fun _ _=>trivial,?_⟩;rw[Oper.semAt_eq _ _ _ (fun q e=>by rw[hop]at e;cases e)];have hrl:=H4 (c:=c1) (ρv:=a1.eval) (ρ:=s1.ev) (fun x=>TBZ.ev x) args;have hv:=TBZ.ev f;rw[hfv]at hv;have hev:a1.eval f=.func (.yield t.l) #[] #[]:=by generalize a1.eval f=q at hv;cases hv;rfl
  have ht1:TAT c1 t:=(TAj t htk).ext hx1;obtain⟨g,tmps,assign,body,q1,q2⟩:=hy c1 _ TBZ.heap TBZ.H_ ht1 (hrl.TDH hw);have I_:(execOp ({ a1 with defers:=ds }:Act).eval o).run X.P c1.w=.ok (.round t.l g tmps assign body) c1.w:=by
   show(execOp a1.eval o).run X.P c1.w=_;unfold execOp;rw[hop];simp[resolve,Deferred.ofValue,hev,invoke,q1]
  rw[I_,Oper.uponIn_round];refine⟨fun e=>by simp[A0,ZB1]at e,RoundIn.mono (F:=A0 _) (R:=fun e w'=>∃S' γ',e=.returned (.bool false)∧w'.heap[t.l]?=some (.loop (KD t.r (some q)))∧I' ⟨w'.putObj t.l (.loop t.r),S',γ',H'⟩∧Ext c1 ⟨w'.putObj t.l (.loop t.r),S',γ',H'⟩) q2 ?_⟩;rintro e w' ⟨S',γ',rfl,g1,g2,g3⟩;have TCs:=TBZ.E' g3 g2 (d:=o.dst) (v:=.bool false) (x:=.bool false) (.bool false) hN';have hk2:Kept ⟨w'.putObj t.l (.loop t.r),S',γ',H'⟩ t.l (.loop t.r):=ht1.1.ext (g3.toB 0);have TDO:=TCs.TCQ (o':=.loop (KD t.r (some q))) hk2;have hk3:=MQ (o':=.loop (KD t.r (some q))) hk2;have ew:(w'.putObj t.l (.loop t.r)).putObj t.l (.loop (KD t.r (some q)))=w':=by rw[Cp];exact BK g1
  simp only[ew]at TDO hk3;show wpOpsIn _ _ _ _ _ _ (({ a1 with defers:=ds }:Act).put o.dst (.bool false)) w';rw[Cq];refine TAb.sound hN l2 (tok:=[]) TDO (fun p hp=>absurd hp V') h3 fun a' c' TAt hx=>⟨rfl,a',c',rfl,rfl,TAt,hk3.ext (hx.toB 0),?_⟩
  have hsw:=(I7 (o:=.loop t.r) (hx.toB H'.length) hk3.lt).TCI (N' _);exact(hx1.trans g3).trans hsw
 obtain⟨e,a',w',⟨rfl,a1,c',rfl,rfl,TAt,hkp,hx⟩,TDx⟩:=key b k cs hb trivial (IM _ _);have h0:=hp.out t.l t.r _ hX hrn;have hx2:TAc X.base c0 ⟨c'.w.putObj t.l (.loop t.r),c'.S,c'.γ,c'.H⟩:=hp.ext.trans (hx.toB _);have e5:(c'.w.putObj t.l (.loop t.r)).putObj t.l (.loop (KD t.r (some q)))=c'.w:=by rw[Cp];exact BK hkp.1
 have hx3:=I7 (o:=.loop (KD t.r (some q))) hx2 h0.lt;simp only[e5]at hx3;have TFW:Kept ⟨c'.w.putObj t.l (.loop t.r),c'.S,c'.γ,c'.H⟩ t.l (.loop t.r):=h0.ext hx2;have hmk:=(hp.marks.ext (hx.toB 0)).TBU TFW (.loop (KD t.r (some q)));simp only[e5]at hmk;obtain⟨v,fr,r,c'',g1,g2,g3,g4,g5,g6,g7⟩:=h hm (Qy.1 ho).2 (fun e=>by cases e) ⟨c0.w.putObj t.l (.loop (KD t.r (some q))),c0.S,c0.γ,c0.H⟩ c' a1 ds TAt
  ⟨hx3,fun p hp=>absurd hp V',fun l r e=>(by cases e),hmk.size (by simp),fun _ _ _ e _=>(by cases e)⟩ b cs hf hk (by rw[hb,hrn])
 replace g5:TAc X.base ⟨c0.w.putObj t.l (.loop (KD t.r (some q))),c0.S,c0.γ,c0.H⟩ c'':=g5;refine⟨v,fr,r,c'',ZDf (EW.1 TDx) g1,?_,g3,g4,?_,fun l r e=>(by rw[hrn]at e;cases e),g7⟩
 ·unfold nV at g2 ⊢
  rw[hrn];exact g2
 ·unfold UH
  rw[hX,hrn];refine⟨(MQ h0).ext g5,?_⟩;have:=I7 (o:=.loop t.r) g5 (by simpa using h0.lt);simp only[Cp]at this;rw[BK h0.1]at this;exact this
theorem St.ext {N:Nat}{c c':Ctx}{a:Act}{s:AS}(h:St N c a s)(hx:Ext c c')(hr:I' c'):St N c' a { s with h:=c'.H }:=⟨h.size,h.defers,fun i=>hx.rep h.H_ (h.TAP i),rfl,hr⟩
theorem Ga (w:World)(o:Obj):∀b,b<w.heap.size→(w.alloc o).heap[b]?=w.heap[b]?:=fun b hb=>by
 show(w.heap.push o)[b]?=_;rw[Array.getElem?_push_lt hb,Array.getElem?_eq_getElem hb]
def tF (q:Option Code):Option Code:=q
def sS (q:Option Code)(k:List Item):List Item:=((tF q).map Item.code).toList ++ k
theorem ER {X:Env}(q:Option Code)(hq:kP q){f:Operand}{ps:Array Nat}{assign body:Code}{k:List Item}{s:AS}{gf:FuncId}{G_:List AV}{Hn:List AO}(hX:X.rnd=none)(htk:X.tok=[])(hf:s.ev f=.fn gf G_)
  (hit:∀t:Tok,TBs X.P X.fn ps assign body s t→TBb X.P t q gf (.yld t.l :: G_) s.h Hn) (hk:Run X (sS q k) { s with h:=Hn }):Run X (.code (.rangeFunc f ps assign body) :: k) s:=by
 intro hm ho hrn c0 c a ds hst hp b cs hf' hk' hb;have hb0:b.roundOf=none:=by rw[hb,hX];rfl
 obtain⟨rec,TC4⟩:∃rec:Loop,rec={ state:=.ready,pending:=none,fn:=b.fn,tmps:=a.tmps,params:=ps,assign:=assign,body:=body,defers:=c.w.heap.size }:=⟨_,rfl⟩
 obtain⟨w1,hw1⟩:∃w1,w1=(c.w.alloc (.deferred (some []))).alloc (.loop rec):=⟨_,rfl⟩
 have he:=run_enterLoop_outer (P:=X.P) (w:=c.w) b.fn a.tmps ps assign body;rw[←TC4,←hw1,←hb0]at he;have hD1:w1.heap[c.w.heap.size]?=some (.deferred (some [])):=by
  rw[hw1,Ga _ _ _ (by rw[ZBh];omega)];exact ZDh _ _
 have hL1:w1.heap[c.w.heap.size+1]?=some (.loop rec):=by
  rw[hw1];have:=ZDh (c.w.alloc (.deferred (some []))) (.loop rec);rwa[ZBh]at this
 have hold:∀q,q<c.w.heap.size→w1.heap[q]?=c.w.heap[q]?:=fun q hq=>by
  rw[hw1,Ga _ _ _ (by rw[ZBh];omega),Ga _ _ _ hq]
 have hsz:c.w.heap.size≤w1.heap.size:=by rw[hw1,ZBh,ZBh];omega
 have hx1:Ext c ⟨w1,c.S,c.γ,c.H⟩:=⟨HLe.refl c,fun _ h=>h,fun _ h=>.inl h,fun _ h=>.inr h,fun q hq _=>hold q hq,hsz,by rw[hw1];rfl,by rw[hw1];rfl,by rw[hw1];rfl⟩
 have hr1:I' ⟨w1,c.S,c.γ,c.H⟩:=Fo (l:=c.w.heap.size) hst.H_ (fun q=>by have:=hst.H_.bound _ q;omega) (fun q=>by have:=hst.H_.TBG q;omega) hsz (fun q _ hq=>hold q hq);have TBZ:St X.fn.ntmps ⟨w1,c.S,c.γ,c.H⟩ a s:=by
  have:=hst.ext hx1 hr1;rwa[show({ s with h:=(⟨w1,c.S,c.γ,c.H⟩:Ctx).H }:AS)=s by show({ s with h:=c.H }:AS)=s;rw[hst.heap]]at this
 have hkL:Kept ⟨w1,c.S,c.γ,c.H⟩ (c.w.heap.size+1) (.loop rec):=⟨hL1,fun q=>by have:=hst.H_.bound _ q;omega,fun q=>by have:=hst.H_.TBG q;omega⟩
 have hkD:Kept ⟨w1,c.S,c.γ,c.H⟩ c.w.heap.size (.deferred (some [])):=⟨hD1,fun q=>by have:=hst.H_.bound _ q;omega,fun q=>by have:=hst.H_.TBG q;omega⟩
 obtain⟨t,ht⟩:∃t:Tok,t=⟨c.w.heap.size+1,rec,⟨w1,c.S,c.γ,c.H⟩⟩:=⟨_,rfl⟩
 have htl:t.l=c.w.heap.size+1:=by rw[ht]
 have hLI:TBs X.P X.fn ps assign body s t:=by
  rw[ht,TC4];exact⟨rfl,rfl,hf',rfl,rfl,rfl,⟨a,rfl,TC4▸TBZ⟩,hst.heap⟩
 obtain⟨TFX,B'⟩:=hit t hLI;have hfv:=hst.ev f;rw[hf]at hfv;obtain⟨lb,hlb,hrl⟩:∃lb:Array Value,a.eval f=.func (.func gf) #[] lb∧TAF c lb G_:=by
  generalize a.eval f=q at hfv;cases hfv with
  |fn _ vs _ h1 h2=>exact⟨vs,rfl,h1,h2⟩
 have TDN:(resolve a.eval (rangeCall f (c.w.heap.size+1)) 0).run X.P w1=.ok { target:=.fn (.func gf) lb,args:=#[.func (.yield (c.w.heap.size+1)) #[] #[]] } w1:=by
  simp only[resolve,hlb];simp[go_sem]
 have hinv:(invoke (.fn (.func gf) lb) #[.func (.yield (c.w.heap.size+1)) #[] #[]]).run X.P w1=.ok (.enter gf (#[.func (.yield (c.w.heap.size+1)) #[] #[]] ++ lb)) w1:=by
  simp[invoke,TFX _ _]
 have TCa:=stepR_rangeFunc (P:=X.P) (b:=b) (a:={ a with defers:=ds }) (k:=k) (cs:=cs) (w:=c.w) he TDN hinv;have TBD:TAF ⟨w1,c.S,c.γ,c.H⟩ (#[.func (.yield (c.w.heap.size+1)) #[] #[]] ++ lb) (.yld t.l :: G_):=by
  have h1:TAF ⟨w1,c.S,c.γ,c.H⟩ #[.func (.yield (c.w.heap.size+1)) #[] #[]] [.yld t.l]:=⟨rfl,fun j hj=>by
   obtain rfl:j=0:=by simpa using hj
   rw[htl];exact .yld _⟩
  have h2:TAF ⟨w1,c.S,c.γ,c.H⟩ lb G_:=⟨hrl.1,fun j hj=>hx1.rep hst.H_ (hrl.2 j hj)⟩
  exact EN h1 h2
 have TAj:TAT ⟨w1,c.S,c.γ,c.H⟩ t:=by rw[ht];exact⟨hkL,Ext.refl _⟩
 obtain⟨e,w3,fr,⟨v,S',γ',rfl,TDf,TD4,TD5⟩,TD6,hfn,TD7⟩:=B' ⟨w1,c.S,c.γ,c.H⟩ _ hst.heap hr1 TAj TBD (b.atR { a with defers:=[T4 c.w.heap.size] ++ ds } (.inRangeFunc (c.w.heap.size+1) :: k) :: cs);rw[htl,show t.r=rec by rw[ht]]at TDf TD4 TD5;obtain⟨wp,hwp⟩:∃wp,wp=w3.putObj (c.w.heap.size+1) (.loop rec):=⟨_,rfl⟩
 rw[←hwp]at TD4 TD5;have hr3:=TD4;have hx3:=TD5;have TEh:=hkL.ext (hx3.toB 0);have TFY:=hkD.ext (hx3.toB 0);have TAn:=run_endLoop (P:=X.P) TDf (by rw[TC4];cases q <;> simp[KD]);obtain⟨rx,hrx⟩:∃rx:Loop,rx={ KD rec q with state:=.exhausted }:=⟨_,rfl⟩
 rw[←hrx]at TAn;have TEi:(KD rec q).pending=tF q:=by rw[TC4];cases q <;> rfl
 rw[TEi]at TAn;have ewp:w3.putObj (c.w.heap.size+1) (.loop rx)=wp.putObj (c.w.heap.size+1) (.loop rx):=by rw[hwp,Cp]
 rw[ewp]at TAn;have TCn:=step_leave_returned (c:=b.atR { a with defers:=[T4 c.w.heap.size] ++ ds } (.inRangeFunc (c.w.heap.size+1) :: k)) (cs:=cs) TD7;rw[finish_atR_inRangeFunc]at TCn;have TBj:=stepR_endRangeFunc (P:=X.P) (b:=b) (a:={ a with defers:=[T4 c.w.heap.size] ++ ds }) (k:=k) (cs:=cs) TAn;have TDO:St X.fn.ntmps ⟨wp,S',γ',Hn⟩ a { s with h:=Hn }:=TBZ.ext hx3 hr3;have TFZ:=TDO.TCQ (o':=.loop rx) TEh;have hxB:TAc X.base c0 ⟨wp.putObj (c.w.heap.size+1) (.loop rx),S',γ',Hn⟩:=by
  have h1:=(hp.ext.trans (hx1.toB _)).trans (hx3.toB _);have h2:=hp.ext.size;exact SH (c:=⟨wp,S',γ',Hn⟩) (l:=c.w.heap.size+1) h1 (by omega) (by simp) (Jl _ _ _) rfl rfl rfl
 have hmk:Marks c0 ⟨wp.putObj (c.w.heap.size+1) (.loop rx),S',γ',Hn⟩ (T4 c.w.heap.size :: ds):=by
  have hd:∀ds:List Deferred,Marks c0 c ds→T4 c.w.heap.size∉ds:=by
   intro ds
   induction ds with
   |nil=>simp
   |cons d ds ih =>
    rintro⟨⟨D,rfl,q1,q2,q3⟩,q⟩ TAU;rcases b_.1 TAU with e |e
    ·have:c.w.heap.size=D:=by injection e with e1;injection e1
     have:=q2.lt;omega
    ·exact ih q e
  refine⟨⟨_,rfl,hp.ext.size,TFY.TCQ (by omega) (Jl _ _ _),hd ds hp.marks⟩,?_⟩;exact(((hp.marks.ext (hx1.toB 0)).ext (hx3.toB 0))).TBU TEh _
 obtain⟨v',fr',r',c',k1,k2⟩:=hk hm (by cases q with
  |none=>exact(Qy.1 ho).2
  |some c=>rcases hq c rfl with rfl | ⟨id,rfl⟩ <;> exact Qy.2 ⟨rfl,(Qy.1 ho).2⟩) hrn c0 ⟨wp.putObj (c.w.heap.size+1) (.loop rx),S',γ',Hn⟩ a (T4 c.w.heap.size :: ds) TFZ
  ⟨hxB,fun p hp'=>absurd hp' (by rw[htk];exact V'),fun l r e=>(by rw[hX]at e;cases e),hmk,hp.out⟩ b cs hf' hk' hb
 refine⟨v',fr',r',c',.head TCa (ZDf (show Steps X.P _ _ from TD6) (  .head TCn (.head TBj k1))),?_,k2.2⟩;have:=k2.1;unfold nV at this ⊢;rw[hX]at this ⊢;exact this
theorem G5 {X:Env}{f:Operand}{ps:Array Nat}{assign body:Code}{k:List Item}{s:AS}{gf:FuncId}{G_:List AV}{Hn:List AO}(hX:X.rnd=none)(htk:X.tok=[])(hf:s.ev f=.fn gf G_)
  (hit:∀t:Tok,TBs X.P X.fn ps assign body s t→TBt X.P t gf (.yld t.l :: G_) s.h Hn) (hk:Run X k { s with h:=Hn }):Run X (.code (.rangeFunc f ps assign body) :: k) s :=
 ER none (fun c e=>by cases e) hX htk hf hit hk
section
variable (P:Program) (fn:Func) (str hcs:List Nat) (m l:Nat) (r:Loop) (t:Tok) (q:Code) (H:List AO)
theorem vk:(Vm P fn str hcs t m H).P=P:=C_ rfl
theorem jA:(Vm P fn str hcs t m H).str=str:=C_ rfl
theorem jz:(Vm P fn str hcs t m H).hcs=hcs:=C_ rfl
theorem vu:(SD P fn str hcs m l r H).P=P:=C_ rfl
theorem jI:(SD P fn str hcs m l r H).str=888888 :: str:=C_ rfl
theorem jH:(SD P fn str hcs m l r H).hcs=hcs:=C_ rfl
theorem vn:(jB P fn str hcs t q m H).P=P:=C_ rfl
theorem jC:(jB P fn str hcs t q m H).str=str:=C_ rfl
end
theorem yz {P:Program}{fn:Func}{str hcs:List Nat}{t:Tok}{m:Nat}{H:List AO}{s:AS}(hr:fn.results=#[])(h:s.h.take m=H):TBS (Vm P fn str hcs t m H) s :=
 ⟨.tup [],by show Al P fn s=_;simp[Al,hr,JC,BH],h⟩
theorem zi {P:Program}{fn:Func}{str hcs:List Nat}{m:Nat}{H:List AO}{s:AS}(hr:fn.results=#[])(h:s.h.take m=H):TAC (yg P fn str hcs m H) s :=
 ⟨.tup [],by show Al P fn s=_;simp[Al,hr,JC,BH],h⟩
theorem zj {P:Program}{fn:Func}{str hcs:List Nat}{m l:Nat}{r:Loop}{H:List AO}{s:AS}(h:s.h.take m=H):TBS (SD P fn str hcs m l r H) s:=⟨.any,rfl,h⟩
theorem Vo {P:Program}{fn:Func}{str hcs:List Nat}{m l:Nat}{r:Loop}{H:List AO}{k:List Item}{s:AS}(hr:r.state=.ready)(h:Run (SD P fn str hcs m l { r with state:=.busy } H) k s):Run (SD P fn str hcs m l r H) (.beginRound :: k) s :=
 Pj (X:=SD P fn str hcs m l r H) rfl rfl hr h
theorem NL (X:Env)(n:Nat)(f:Operand)(ps:Array Nat)(a b:Code)(k:List Item)(s:AS):vc X (n+1) (.code (.rangeFunc f ps a b) :: k) s=aH X (.code (.rangeFunc f ps a b) :: k) .mk s:=C_ rfl
theorem aF (X:Env)(n:Nat)(k:List Item)(s:AS):vc X (n+1) (.beginRound :: k) s=aH X (.beginRound :: k) .mk s:=C_ rfl
set_option linter.defProp false
def Ju:=XM @NL <| XM @aF <| XM @vk <| XM @jA <| XM @jz <| XM @vu <| XM @jI <| XM @jH <| XM @vn <| @jC
end
end Go.Ab
