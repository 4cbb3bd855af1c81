/- A layer of abstract values and heaps over the model; what is proved here is that its steps and contracts are sound, for every program. -/
import Derived.Test.YtcmfnmceomhgcaaGreatAb3
import Derived.WalkKit
import Derived.ProofKit
import Derived.OpenShut
import Derived.JoinedCond
import Derived.Carry
open And renaming intro → XB
set_option linter.unusedSimpArgs false
set_option linter.unusedVariables false
open Go.DataW renaming TrodAll→ZCD
open Go.Fence renaming wide→ZB3
open Go.IntKind renaming i64→Q_
open Go.Steps renaming trans→ZDk
open Go.World renaming putObj_size→ZA3,putObj_heap_same→ZBC,size_alloc→ZBh,alloc_heap_new→ZDl
open List renaming replicate→ZAP,set_eq_of_length_le→ZDR
open Nat renaming not_lt→ZDe
namespace Go.Ab
open Go Go.RowKit
theorem L':type_of%@eq_true:=@eq_true
theorem e_:type_of%@List.cons_append:=@List.cons_append
theorem ZAH:type_of%@Int.tmod_eq_emod_of_nonneg:=@Int.tmod_eq_emod_of_nonneg
theorem ZAQ:type_of%@List.append_nil:=@List.append_nil
theorem ZAs:type_of%@List.set_append_right:=@List.set_append_right
theorem ZBO:type_of%@Int.emod_lt_of_pos:=@Int.emod_lt_of_pos
theorem ZBr:type_of%@Int.emod_nonneg:=@Int.emod_nonneg
theorem ZBt:type_of%@Bool.true_and:=@Bool.true_and
noncomputable section
theorem FC {c:Ctx}(hr:I' c)(m:Nat)(hO:∀o∈c.H.take m,Q0 m o):I' ⟨c.w,c.S,c.γ,c.H.take m⟩:=by
 have TAN:∀ (i:Nat) (o:AO),(c.H.take m)[i]?=some o→c.H[i]?=some o∧i<m:=by
  intro i o ho;rw[ZAe]at ho
  split at ho
  ·exact⟨ho,by assumption⟩
  ·cases ho
 have TAW:∀ (i:Nat) (o:AO),(c.H.take m)[i]?=some o→Q0 m o:=fun i o ho=>hO o (ZAK ho)
 refine⟨?_,?_,?_,?_,hr.bound⟩
 ·intro id v n f ho
  have hb:=TAW _ _ ho;rcases hr.row id v n f (TAN _ _ ho).1 with h | ⟨b,sz,cs,el,g1,g2,g3,g4,g5,g6⟩
  ·exact .inl h
  ·exact .inr ⟨b,sz,cs,el,g1,g2,g3,g4,g5,fun j hj=>hb j hj c _ (g6 j hj)⟩
 ·intro id v n f ho
  have hb:=TAW _ _ ho;rcases hr.con id v n f (TAN _ _ ho).1 with h | ⟨b,sz,cs,el,fr,g1,g2,g3,g4,g5,g6⟩
  ·exact .inl h
  ·exact .inr ⟨b,sz,cs,el,fr,g1,g2,g3,g4,g5,fun j hj=>hb j hj c _ (g6 j hj)⟩
 ·intro id k g ho
  have hb:=TAW _ _ ho;obtain⟨b,sz,es,cl,g1,g2,g3,g4⟩:=hr.map id k g (TAN _ _ ho).1;exact⟨b,sz,es,cl,g1,g2,g3,g4.keys,g4.uniq,fun n a hn=>let ⟨e,he,hk,hr⟩:=g4.hit n a hn; ⟨e,he,hk,hb n a hn c _ hr⟩,g4.TB7⟩
 ·intro i i' o o' b sz sz' ho ho' g1 g2 hg hg'
  exact hr.inj _ _ _ _ _ _ _ (TAN _ _ ho).1 (TAN _ _ ho').1 g1 g2 hg hg'
theorem l9 {w:World}{S:Nat→Prop}{γ γ':Nat→Option (Nat×Nat)} {H rest:List AO} (hγ:∀id,id<H.length→γ' id=γ id) (w':World) (S':Nat→Prop):HLe ⟨w,S,γ,H⟩ ⟨w',S',γ',H ++ rest⟩:=by
 intro id o ho;have ho':H[id]?=some o:=ho;have hlt:=(S_.1 ho').1;have h1:(H ++ rest)[id]?=some o:=by rw[T_ hlt];exact ho
 have hg:=hγ id hlt;cases o with
 |D_=>trivial
 |dead=>exact h1
 |row v _ _=>exact .inr ⟨v,by simp[inf,h1,AO.info],.inr ⟨rfl,hg⟩⟩
 |con v _ _=>exact .inr ⟨v,by simp[inf,h1,AO.info],.inr ⟨rfl,hg⟩⟩
 |map k g=>exact .inr ⟨⟨k,g,h1⟩,hg⟩
theorem Gj {c:Ctx}{H1 H1' rest:List AO}{v:AV}(hH:c.H=H1 ++ rest)(hr:I' c)(hlen:H1'.length=H1.length){w':World}{S':Nat→Prop}{γ':Nat→Option (Nat×Nat)} {x:Value}
  (hx:Rep ⟨w',S',γ',H1'⟩ x v) (hr':I' ⟨w',S',γ',H1'⟩) (J':Ext ⟨c.w,c.S,c.γ,H1⟩ ⟨w',S',γ',H1'⟩):∃γ2,Rep ⟨w',S',γ2,H1' ++ rest⟩ x v∧I' ⟨w',S',γ2,H1' ++ rest⟩∧Ext c ⟨w',S',γ2,H1' ++ rest⟩:=by
 have old:∀ (id:Nat) (o:AO),H1[id]?=some o→c.H[id]?=some o:=fun id o ho=>by
  rw[hH,T_ (S_.1 ho).1];exact ho
 have TCb:∀b,Ar ⟨c.w,c.S,c.γ,H1⟩ b→Ar c b:=fun b ⟨id,o,sz,ho,TAP,hg⟩=>⟨id,o,sz,old id o ho,TAP,hg⟩
 let γ2:Nat→Option (Nat×Nat):=fun id=>if id<H1.length then γ' id else c.γ id
 have g2a:∀id,id<H1.length→γ2 id=γ' id:=fun id hid=>N_ hid
 have g2b:∀id,¬id<H1.length→γ2 id=c.γ id:=fun id hid=>M_ hid
 have newAt:∀ (id:Nat) (o:AO),(H1' ++ rest)[id]?=some o→(id<H1.length∧H1'[id]?=some o)∨(¬id<H1.length∧c.H[id]?=some o):=by
  intro id o ho;by_cases hid:id<H1.length
  ·exact .inl ⟨hid,by rwa[T_ (by omega)]at ho⟩
  ·refine .inr ⟨hid,?_⟩
   rw[g_ (by omega),hlen]at ho;rw[hH,g_ (by omega)];exact ho
 have lift:∀ {u a},Rep ⟨w',S',γ',H1'⟩ u a→Rep ⟨w',S',γ2,H1' ++ rest⟩ u a:=fun hu =>
  hu.ext (fun _ h=>h) (fun _ _=>rfl) (l9 (fun id hid=>g2a id (by rw[←hlen];exact hid)) _ _)
 have apart:∀ (id:Nat) (o:AO) (b sz:Nat),¬id<H1.length→c.H[id]?=some o→o.owned=true→c.γ id=some (b,sz)→¬Ar ⟨c.w,c.S,c.γ,H1⟩ b:=by
  rintro id o b sz hid ho TAP hg ⟨id',o',sz',ho',TBB,hg'⟩;have:=hr.inj id id' o o' b sz sz' ho (old id' o' ho') TAP TBB hg hg';have hlt:=(S_.1 (show H1[id']?=some o' from ho')).1;omega
 have TCo:Ext c ⟨w',S',γ2,H1' ++ rest⟩:=by
  refine⟨?_,J'.TAf,fun b hb=>(J'.TA6 b hb).imp id (Or.imp id (TCb b)),?_,fun b hlt hno=>J'.same b hlt (fun ho=>hno (TCb b ho)),J'.size,J'.os,J'.tape,J'.output⟩
  ·intro id o ho
   by_cases hid:id<H1.length
   ·have ho1:H1[id]?=some o:=by rw[hH,T_ hid]at ho;exact ho
    have h1:=J'.hle id o ho1;have J_:inf (H1' ++ rest) id=inf H1' id:=by unfold inf;rw[T_ (by omega)]
    have TAN:(H1' ++ rest)[id]?=H1'[id]?:=T_ (by omega);cases o with
    |D_=>trivial
    |dead=>show(H1' ++ rest)[id]?=_;rw[TAN];exact h1
    |row v _ _ =>
     show(H1' ++ rest)[id]?=_∨∃v',inf (H1' ++ rest) id=_∧(_∨(_∧γ2 id=_));rw[TAN,J_,g2a id hid];exact h1
    |con v _ _ =>
     show(H1' ++ rest)[id]?=_∨∃v',inf (H1' ++ rest) id=_∧(_∨(_∧γ2 id=_));rw[TAN,J_,g2a id hid];exact h1
    |map k g =>
     show(H1' ++ rest)[id]?=_∨((∃k g,(H1' ++ rest)[id]?=_)∧γ2 id=_);rw[TAN,g2a id hid];exact h1
   ·have TAN:(H1' ++ rest)[id]?=c.H[id]?:=by rw[g_ (by omega),hlen,hH,g_ (by omega)]
    have J_:inf (H1' ++ rest) id=inf c.H id:=by unfold inf;rw[TAN]
    have h1:=HLe.refl c id o ho;cases o with
    |D_=>trivial
    |dead=>show(H1' ++ rest)[id]?=_;rw[TAN];exact h1
    |row v _ _ =>
     show(H1' ++ rest)[id]?=_∨∃v',inf (H1' ++ rest) id=_∧(_∨(_∧γ2 id=_));rw[TAN,J_,g2b id hid];exact h1
    |con v _ _ =>
     show(H1' ++ rest)[id]?=_∨∃v',inf (H1' ++ rest) id=_∧(_∨(_∧γ2 id=_));rw[TAN,J_,g2b id hid];exact h1
    |map k g =>
     show(H1' ++ rest)[id]?=_∨((∃k g,(H1' ++ rest)[id]?=_)∧γ2 id=_);rw[TAN,g2b id hid];exact h1
  ·rintro b ⟨id,o,sz,ho,TAP,hg⟩
   rcases newAt id o ho with⟨hid,ho'⟩ | ⟨hid,ho'⟩
   ·exact(J'.TAy b ⟨id,o,sz,ho',TAP,(g2a id hid).symm.trans hg⟩).imp (fun h=>h) (TCb b)
   ·exact .inr ⟨id,o,sz,ho',TAP,(g2b id hid).symm.trans hg⟩
 have TEe:∀ (id:Nat) (o:AO) (b sz:Nat),¬id<H1.length→c.H[id]?=some o→o.owned=true→c.γ id=some (b,sz)→b<c.w.heap.size→¬c.S b→w'.heap[b]?=c.w.heap[b]?∧¬S' b:=by
  intro id o b sz hid ho TAP hg hlt hnS;have hno:=apart id o b sz hid ho TAP hg;refine⟨J'.same b hlt hno,fun hs=>?_⟩;rcases J'.TA6 b hs with h |h |h
  ·exact hnS h
  ·exact absurd hlt (ZDe.2 h)
  ·exact hno h
 refine⟨γ2,lift hx,⟨?_,?_,?_,?_,hr'.bound⟩,TCo⟩
 ·intro id ver n g ho
  rcases newAt id _ ho with⟨hid,ho'⟩ | ⟨hid,ho'⟩
  ·rw[show(⟨w',S',γ2,H1' ++ rest⟩:Ctx).γ id=γ' id from g2a id hid]
   rcases hr'.row id ver n g ho' with h | ⟨b,sz,cs,el,k1,k2,k3,k4,k5,k6⟩
   ·exact .inl h
   ·exact .inr ⟨b,sz,cs,el,k1,k2,k3,k4,k5,fun j hj=>lift (k6 j hj)⟩
  ·rw[show(⟨w',S',γ2,H1' ++ rest⟩:Ctx).γ id=c.γ id from g2b id hid]
   rcases hr.row id ver n g ho' with h | ⟨b,sz,cs,el,k1,k2,k3,k4,k5,k6⟩
   ·exact .inl h
   ·obtain⟨q1,q2⟩:=TEe id _ b sz hid ho' rfl k1 (f_.1 k2).1 k5
    exact .inr ⟨b,sz,cs,el,k1,q1.trans k2,k3,k4,q2,fun j hj=>TCo.rep hr (k6 j hj)⟩
 ·intro id ver n g ho
  rcases newAt id _ ho with⟨hid,ho'⟩ | ⟨hid,ho'⟩
  ·rw[show(⟨w',S',γ2,H1' ++ rest⟩:Ctx).γ id=γ' id from g2a id hid]
   rcases hr'.con id ver n g ho' with h | ⟨b,sz,cs,el,fr,k1,k2,k3,k4,k5,k6⟩
   ·exact .inl h
   ·exact .inr ⟨b,sz,cs,el,fr,k1,k2,k3,k4,k5,fun j hj=>lift (k6 j hj)⟩
  ·rw[show(⟨w',S',γ2,H1' ++ rest⟩:Ctx).γ id=c.γ id from g2b id hid]
   rcases hr.con id ver n g ho' with h | ⟨b,sz,cs,el,fr,k1,k2,k3,k4,k5,k6⟩
   ·exact .inl h
   ·have hno:¬Ar ⟨c.w,c.S,c.γ,H1⟩ b:=fun h=>hr.TBX k5 (TCb b h)
    exact .inr ⟨b,sz,cs,el,fr,k1,(J'.same b (hr.bound b k5) hno).trans k2,k3,k4,J'.TAf b k5,fun j hj=>TCo.rep hr (k6 j hj)⟩
 ·intro id k g ho
  rcases newAt id _ ho with⟨hid,ho'⟩ | ⟨hid,ho'⟩
  ·rw[show(⟨w',S',γ2,H1' ++ rest⟩:Ctx).γ id=γ' id from g2a id hid]
   obtain⟨b,sz,es,cl,k1,k2,k3,k4⟩:=hr'.map id k g ho';exact⟨b,sz,es,cl,k1,k2,k3,k4.ext fun v a hv=>lift hv⟩
  ·rw[show(⟨w',S',γ2,H1' ++ rest⟩:Ctx).γ id=c.γ id from g2b id hid]
   obtain⟨b,sz,es,cl,k1,k2,k3,k4⟩:=hr.map id k g ho';obtain⟨q1,q2⟩:=TEe id _ b sz hid ho' rfl k1 (f_.1 k2).1 k3;exact⟨b,sz,es,cl,k1,q1.trans k2,q2,k4.ext fun v a hv=>TCo.rep hr hv⟩
 ·have mix:∀ (id id':Nat) (o o':AO) (b sz sz':Nat),id<H1.length→H1'[id]?=some o→o.owned=true→γ' id=some (b,sz)→¬id'<H1.length→c.H[id']?=some o'→o'.owned=true→c.γ id'=some (b,sz')→False:=by
   intro id id' o o' b sz sz' hid ho TAP hg TBU ho' TBB hg';have hlt:b<c.w.heap.size:=hr.TBH ⟨id',o',sz',ho',TBB,hg'⟩;rcases J'.TAy b ⟨id,o,sz,ho,TAP,hg⟩with h |h
   ·exact absurd hlt (ZDe.2 h)
   ·exact apart id' o' b sz' TBU ho' TBB hg' h
  intro id id' o o' b sz sz' ho ho' h1 h2 hg hg';rcases newAt id o ho with⟨hid,k1⟩ | ⟨hid,k1⟩ <;> rcases newAt id' o' ho' with⟨TBU,k2⟩ | ⟨TBU,k2⟩
  ·exact hr'.inj id id' o o' b sz sz' k1 k2 h1 h2 ((g2a id hid).symm.trans hg) ((g2a id' TBU).symm.trans hg')
  ·exact(mix id id' o o' b sz sz' hid k1 h1 ((g2a id hid).symm.trans hg) TBU k2 h2 ((g2b id' TBU).symm.trans hg')).elim
  ·exact(mix id' id o' o b sz' sz TBU k2 h2 ((g2a id' TBU).symm.trans hg') hid k1 h1 ((g2b id hid).symm.trans hg)).elim
  ·exact hr.inj id id' o o' b sz sz' k1 k2 h1 h2 ((g2b id hid).symm.trans hg) ((g2b id' TBU).symm.trans hg')
theorem G'.frame {P:Program}{f:FuncId}{args:List AV}{H1 H1':List AO}{v:AV}(h:G' P f args H1 v H1')(hlen:H1'.length=H1.length)(hb:∀ a∈args,Jl H1.length a)(hO:∀ o∈H1,Q0 H1.length o)(rest:List AO) :
  G' P f args (H1 ++ rest) v (H1' ++ rest):=by
 refine⟨h.1,fun c vs hH hr hv=>?_⟩;have TA5:c.H.take H1.length=H1:=by rw[hH];simp
 have hr1:I' ⟨c.w,c.S,c.γ,H1⟩:=by
  have:=FC hr H1.length (by rw[TA5];exact hO);rwa[TA5]at this
 have hv1:TAH ⟨c.w,c.S,c.γ,H1⟩ vs args:=⟨hv.1,fun j hj=>by
  have TAW:args.getD j .any∈args:=by rw[K',V' hj];exact ZAR _
  have:=hb _ TAW c _ (hv.2 j hj);rwa[TA5]at this⟩
 refine(h.2 ⟨c.w,c.S,c.γ,H1⟩ vs rfl hr1 hv1).mono ?_;rintro e w' ⟨x,S',γ',rfl,hx,hr',J'⟩;obtain⟨γ2,k1,k2,k3⟩:=Gj hH hr hlen hx hr' J';exact⟨x,S',γ2,rfl,k1,k2,k3⟩
def Ig (P:Program)(fn:Func)(str hcs:List Nat)(m:Nat)(r:AV)(H':List AO):Env:=⟨P,fn,str,hcs,m,none,[],none,fun v H=>v=r∧H.take m=H'⟩
@[simp] theorem TFR (P:Program)(fn:Func)(str hcs:List Nat)(m:Nat)(r:AV)(H:List AO)(s:AS):TU (Ig P fn str hcs m r H) s=Au P fn s:=rfl
theorem G'.TAp {P:Program}{f:FuncId}{fn:Func}{body:Code}(he:Cs P f)(hf:P.funcs[f]?=some fn)(hb:fn.body=some body)(hm:P.follows .mixedOrders=true){args:List AV}{H H':List AO}{r:AV}
  (n0:Nat) (hid str hcs:List Nat) (hok:QO fn.ntmps str hcs body=true) (hlen:args.length≤fn.ntmps) (hr:Jl H.length r) (hO:∀o∈H',Q0 H.length o)
  (h:Run (Ig P fn str hcs H.length r H') [.code body] (AS.start n0 hid args H)):G' P f args H r H':=by
 refine⟨he,?_⟩;rintro c vs rfl hrc hv;refine C8 (X:=Ig P fn str hcs c.H.length r H') hf hb hm hok rfl hrc hv hlen h (fun p hp=>absurd hp (V_)) ?_;rintro v r' ⟨w',S',γ',H''⟩ h1 h2 h3 ⟨rfl,rfl⟩;have hst:St 1 ⟨w',S',γ',H''⟩ { tmps:=#[v],defers:=[] } ⟨0,[],[],[(0,r')],H''⟩:=by
  refine⟨rfl,rfl,fun i=>?_,rfl,h2⟩;unfold AS.get;simp only[ZAL,if_false,XM]
  split
  ·rename_i hi;subst hi;exact h1
  ·exact .any _
 obtain⟨c',hw,hx,TAu⟩:=XG (b:=c.H.length) (m:=c.H.length) (s:=⟨0,[],[],[(0,r')],H''⟩) (s':=⟨0,[],[],[(0,r')],H''.take c.H.length⟩) (N' _) rfl trivial ⟨.inr rfl,trivial⟩ rfl (by simp) (by simp;exact hr) hO _ _ _ hst;have hv':=TAu.TAQ 0;have hH:=TAu.heap;have H_:=TAu.H_;obtain⟨w2,S2,γ2,H2⟩:=c';cases hw;cases hH;refine⟨v,S2,γ2,rfl,by simpa [AS.get,XM]using hv',H_,?_⟩;exact(h3.trans hx).TCI (N' _)
def Jj (H:List AO)(a b:AV):Prop:=∀ (c:Ctx) (v:Value),c.H=H→I' c→Rep c v a→Rep c v b
theorem XD (H:List AO)(a:AV):Jj H a a:=fun _ _ _ _ h=>h
theorem WL {H:List AO}{id ver k:Nat}{f g:Nat→AV}(ho:H[id]?=some (.con ver k f)) (hk:0<k) (hg:∀j,j<k→Jj H (f j) (g j)):Jj H (.ref id ver 0) (.ptr k g 0):=by
 rintro c v rfl hr h;have J_:inf c.H id=some ver:=by simp[inf,ho,AO.info]
 cases h with
 |ref _ _ _ b sz hi hgm =>
  rcases hr.con id ver k f ho with⟨h1,h2⟩ | ⟨b',sz',cs,el,fr,h1,h2,h3,h4,h5,h6⟩
  ·omega
  ·rw[h1]at hgm;cases hgm
   have:=Rep.ptr (c:=c) b 0 k 0 g (fun j=>cs.getD j undef) h5 (fun j hj=>ZU h2 (by omega) j hj) (fun j hj=>hg j hj c _ rfl hr (h6 j hj));rwa[z_]at this
 |TAR _ _ _ a hs =>
  exfalso;rcases hs with⟨v',hi,hlt⟩ |hd
  ·rw[J_]at hi;cases hi;omega
  ·simp[inf,hd,AO.info]at J_
theorem Qe {m:Nat}{s:AS}(id:Nat){ver n:Nat}{f:Nat→AV}(g:Nat→AV)(ho:s.h[id]?=some (.row ver n f)) (hfg:∀j,j<n→Jj s.h (f j) (g j)):Sub m s { s with h:=s.h.set id (.row ver n g) }:=by
 intro N c a hst;have hH:=hst.heap;rw[←hH]at ho hfg;have hlt:=(S_.1 ho).1;have hat:(c.H.set id (.row ver n g))[id]?=some (.row ver n g):=by simp[hlt]
 have TAI:∀i,i≠id→(c.H.set id (AO.row ver n g))[i]?=c.H[i]?:=fun i hi=>L_ (w_ hi)
 let c':Ctx:=⟨c.w,c.S,c.γ,c.H.set id (.row ver n g)⟩
 have J_:∀i,inf c'.H i=inf c.H i:=fun i=>by
  by_cases hi:i=id
  ·subst hi;simp[inf,c',hat,ho,AO.info]
  ·simp[inf,c',TAI i hi]
 have TCR:∀i:Nat,c'.H[i]?=some AO.dead↔c.H[i]?=some AO.dead:=fun i=>by
  by_cases hi:i=id
  ·subst hi;simp[c',hat,ho]
  ·simp[c',TAI i hi]
 have TCa:∀ (i:Nat) k q,c.H[i]?=some (AO.map k q)↔c'.H[i]?=some (AO.map k q):=fun i k q=>by
  by_cases hi:i=id
  ·subst hi;simp[c',hat,ho]
  ·simp[c',TAI i hi]
 have TAb:∀ {v a},Rep c v a→Rep c' v a:=fun hv=>TR (c:=c) (c':=c') rfl rfl rfl J_ TCR (fun i k q=>(TCa i k q).1) hv
 have TC1:∀b,Ar c' b→Ar c b:=by
  rintro b ⟨i,o,sz,hoi,TAP,hg⟩;by_cases hi:i=id
  ·subst hi;exact⟨i,_,sz,ho,rfl,hg⟩
  ·exact⟨i,o,sz,by rw[←TAI i hi];exact hoi,TAP,hg⟩
 have J':Ext c c':=by
  refine⟨?_,fun b h=>h,fun b h=>.inl h,fun b h=>.inr (TC1 b h),fun _ _ _=>rfl,N' _,rfl,rfl,rfl⟩;intro i o hoi;have key:∀v,inf c.H i=some v→(c'.H[i]?=some .dead∨∃v',Ab.inf c'.H i=some v'∧(v<v'∨(v'=v∧c'.γ i=c.γ i))) :=
   fun v hv=>.inr ⟨v,by rw[J_];exact hv,.inr ⟨rfl,rfl⟩⟩
  cases o with
  |D_=>trivial
  |dead=>exact(TCR i).2 hoi
  |row v _ _=>exact key v (by simp[inf,hoi,AO.info])
  |con v _ _=>exact key v (by simp[inf,hoi,AO.info])
  |map k q=>exact .inr ⟨⟨k,q,(TCa i k q).1 hoi⟩,rfl⟩
 refine⟨c',rfl,J'.toB m,hst.size,hst.defers,fun i=>TAb (hst.TAQ i),by simp[c',hH],?_⟩;refine⟨?_,?_,?_,?_,hst.H_.bound⟩
 ·intro i v k q hoi
  by_cases hi:i=id
  ·subst hi
   simp only[c']at hoi;rw[hat]at hoi;cases hoi;rcases hst.H_.row i ver n f ho with h | ⟨b,sz,cs,el,h1,h2,h3,h4,h5,h6⟩
   ·exact .inl h
   ·exact .inr ⟨b,sz,cs,el,h1,h2,h3,h4,h5,fun j hj=>TAb (hfg j hj c _ rfl hst.H_ (h6 j hj))⟩
  ·simp only[c']at hoi
   rw[TAI i hi]at hoi;rcases hst.H_.row i v k q hoi with h | ⟨b,sz,cs,el,h1,h2,h3,h4,h5,h6⟩
   ·exact .inl h
   ·exact .inr ⟨b,sz,cs,el,h1,h2,h3,h4,h5,fun j hj=>TAb (h6 j hj)⟩
 ·intro i v k q hoi
  by_cases hi:i=id
  ·subst hi;simp only[c']at hoi;rw[hat]at hoi;cases hoi
  ·simp only[c']at hoi
   rw[TAI i hi]at hoi;rcases hst.H_.con i v k q hoi with h | ⟨b,sz,cs,el,fr,h1,h2,h3,h4,h5,h6⟩
   ·exact .inl h
   ·exact .inr ⟨b,sz,cs,el,fr,h1,h2,h3,h4,h5,fun j hj=>TAb (h6 j hj)⟩
 ·intro i k q hoi
  obtain⟨b,sz,es,cl,h1,h2,h3,h4⟩:=hst.H_.map i k q ((TCa i k q).2 hoi);exact⟨b,sz,es,cl,h1,h2,h3,h4.ext fun v a hv=>TAb hv⟩
 ·intro i i' o o' b sz sz' hoi TAn h1 h2 hg hg'
  have key:∀ (i:Nat) o,c'.H[i]?=some o→o.owned=true→∃o2:AO,c.H[i]?=some o2∧o2.owned=true:=by
   intro i o hoi h;by_cases hi:i=id
   ·subst hi;exact⟨_,ho,rfl⟩
   ·exact⟨o,by rw[←TAI i hi];exact hoi,h⟩
  obtain⟨o2,k1,k2⟩:=key i o hoi h1;obtain⟨o3,k3,k4⟩:=key i' o' TAn h2;exact hst.H_.inj _ _ _ _ _ _ _ k1 k3 k2 k4 hg hg'
theorem av {P:Program}{fn:Func}{str hcs:List Nat}{m:Nat}{r v:AV}{H:List AO}{s:AS}{t u:Nat}(hr:fn.results=#[.cell t u])(h:Qy P false u (s.get t) s.h=some v) (e:v=r) (hH:s.h.take m=H):TAC (Ig P fn str hcs m r H) s :=
 ⟨v,by simp[TU,Au,Ig,hr,JL,A8,BO,h],e,hH⟩
section
variable (P:Program) (fn:Func) (str hcs:List Nat) (b:Nat) (r:AV) (H':List AO)
theorem vO:(Ig P fn str hcs b r H').P=P:=C_ rfl
theorem qe:(Ig P fn str hcs b r H').fn=fn:=C_ rfl
theorem jR:(Ig P fn str hcs b r H').str=str:=C_ rfl
theorem jQ:(Ig P fn str hcs b r H').hcs=hcs:=C_ rfl
end
end
end Go.Ab
namespace Go.Ab
open Go Go.RowKit
noncomputable section
set_option linter.defProp false
def X6:=XB @VH <| XB @SX <| XB @PB <| XB @qQ <| XB @kQ <| XB @kN <| XB @kM <| XB @kP <| XB @kO <| XB @dM <| XB @VI <| XB @xB <| XB @sN <| XB @nM <| XB @nJ <| XB @nN <| XB @WJ <| XB @WK <| XB @gX <| XB @oT <| XB @oS <| XB @gV <| XB @UZ <| XB @nL <| XB @nK <| XB @V0 <| XB @gU <| XB @gx <| XB @UE <| XB @UY <| XB @UX <| XB @UF <| XB @UG <| XB @UW <| XB @gR <| XB @S8 <| XB @gQ <| XB @UU <| XB @gN <| XB @oN <| XB @uM <| XB @gL <| XB @NL <| XB @NK <| XB @b8 <| XB @aZ <| XB @LZ <| XB @be <| XB @PC <| XB @b9 <| XB @UV <| XB @PA <| XB @oP <| XB @oR <| XB @oQ <| XB @UT <| XB @gM <| XB @EB <| XB @aY <| XB @oO <| XB @gO <| XB @US <| XB @TAv <| XB @TA1 <| XB @IM <| XB @E1 <| XB @MJ <| XB @IL <| XB @Mn <| XB @SZ <| XB @OD <| XB @SI <| XB @TA <| XB @OY <| XB @UN <| XB @UM <| XB @SM <| XB @I7 <| @Tq
def zk:=XB @TAv <| XB @TA1 <| XB @IM <| XB @E1 <| XB @MJ <| XB @IL <| XB @Mn <| XB @SZ <| XB @OD <| XB @SI <| XB @TA <| XB @OY <| XB @UN <| XB @UM <| XB @SM <| XB @Tq <| XB @TCT <| XB @r6 <| XB @VC <| XB @VB <| XB @dH <| XB @SS <| XB @ST <| XB @vW <| XB @kh <| XB @qg <| XB @qT <| XB @fD <| XB @fA <| XB @qm <| XB @pS <| XB @pR <| XB @dC <| XB @pX <| XB @jE <| XB @pY <| XB @vw <| XB @vu <| XB @Rd <| XB @Fz <| XB @jZ <| XB @jY <| XB @vQ <| XB @Yu <| XB @jT <| XB @jS <| XB @vO <| XB @qe <| XB @jR <| XB @jQ <| XB @ii <| XB @S9 <| XB @ir <| XB @iv <| XB @iw <| XB @ij <| XB @iu <| XB @iq <| XB @ip <| XB @io <| XB @il <| XB @bU <| XB @bW <| XB @pc <| XB @pb <| XB @iQ <| XB @iP <| XB @rh <| XB @N4 <| XB @W9 <| XB @ri <| XB @YV <| XB @W8 <| XB @I8 <| XB @cZ <| XB @eI <| XB @Vu <| XB @Gl <| XB @ju <| XB @N0 <| XB @dc <| XB @eJ <| XB @Ot <| XB @OM <| XB @jt <| XB @lI <| XB @cS <| XB @Vr <| XB @cT <| XB @cU <| XB @cV <| XB @EW <| XB @Co <| XB @ou <| XB @sG <| XB @fh <| XB @wL <| XB @xS <| XB @Bs <| XB @Tt <| XB @PQ <| XB @bJ <| XB @bD <| XB @bI <| XB @iS <| @I7
end
end Go.Ab
namespace Go.Ab
open Go Go.RowKit Go.ChangeShapes Go.WideShapes Go.ChangeAt
noncomputable section
variable {H:Type} {enc:TypeId×Value→H} {P:Program}
theorem PX {W w':World}{S S':Nat→Prop}(hx:Ext (.bare W S) (.bare w' S')):Below W.heap.size W w' :=
 ⟨hx.os,hx.tape,hx.output,hx.size,fun _ hk=>hx.same _ hk Dt⟩
def Ya (W:World):Nat→Prop:=fun b=>b<W.heap.size
theorem Vt {f:FuncId}{as:List AV}(h:TA4 P f as (.bool true)) {W:World} {vs:Array Value} (hv:TAH (.bare W (Ya W)) vs as):Calls P f vs W fun e W'=>e=.returned (.bool true)∧Below W.heap.size W W':=by
 refine(h.2 W (Ya W) vs (fun _ h=>h) hv).mono ?_;rintro e w' ⟨v,S',rfl,hr,_,hx⟩;cases hr;exact⟨rfl,PX hx⟩
theorem Im {n:Int}(h:(Lit.int .i64 n).wf=true):-9223372036854775808≤n∧n<9223372036854775808:=by
 have:Q_.min≤n∧n≤Q_.max:=by simpa [Lit.wf]using h
 have e1:Q_.min = -9223372036854775808:=by decide
 have e2:Q_.max=9223372036854775807:=by decide
 omega
theorem Gs {t e:TypeId}{r:Reach}{b0:Nat}{base:Nat}{sp:Nat→Bool}{held:Bool}{W:World}{v:Value}{d:DataW H}{ps:List MemPlace}(ht:P.underlying t=some (.slice e)) (he:P.underlying e=some (.int .i64)) (hc:P.cellsOf e=1)
  (TBG:Value.okWide P W r b0 t v) (h:DataW.Trod enc P W base sp held t v d ps) :
  ∃l:List Int,(∀x∈l,-9223372036854775808≤x∧x<9223372036854775808)∧l.length≤maxLen∧Rep (.bare W (Ya W)) v (.sl l.length l.length (J8 I 0 l) false):=by
 obtain⟨a0,len,cap,rfl⟩:=okWide_slice ht TBG;obtain⟨fuel,hf⟩:=h;rcases open_ints ht he hc hf with⟨hcs,hx⟩ | ⟨a,TGc,TAZ,zs,hcs,_,hl,hm,hz,hx,TDh,hwz⟩
 ·simp[Value.cells]at hcs
  obtain⟨rfl,rfl,rfl⟩:=hcs;exact⟨[],by simp,by simp,.slz _ _ _ _ (by simp)⟩
 ·simp[Value.cells]at hcs
  obtain⟨rfl,rfl,rfl⟩:=hcs;have hlen:len≤zs.length:=by rw[hz];split <;> omega
  refine⟨zs.take len,fun x hx=>Im (hwz x (List.mem_of_mem_take hx)),by rw[v_];exact m_ (Nat.min_le_left _ _) (m_ hl hm),?_⟩;rw[v_,Nat.min_eq_left hlen];rcases Nat.eq_zero_or_pos len with h0 |h0
  ·subst h0;exact .slz _ _ _ _ (by simp)
  ·have c0:=TDh 0 (by omega)
   have hsp:a.spot=none:=by
    unfold World.cell? at c0
    split at c0
    ·cases hs:a.spot with
     |none=>rfl
     |some s=>simp[Addr.add,hs]at c0
    ·cases c0
   obtain⟨ab,ao,as⟩:=a;simp only at hsp;subst hsp;have hb:ab<W.heap.size:=by
    unfold World.cell? at c0
    split at c0
    ·rename_i h;exact(f_.1 h).1
    ·cases c0
   refine .sl ab ao len len cap _ false (fun j=>.int .i64 (zs.getD j 0)) hb (fun j hj=>?_) (fun j hj=>?_) hl (by simp)
   ·have:=TDh j (by omega)
    rwa[Addr.add_lit]at this
   ·have:(zs.take len).getD j 0=zs.getD j 0:=by simp[K',hj]
    rw[Bs,this];exact .int _ _
theorem Gb (hl:laidOutB P=true){W W':World}{sp':Nat→Bool}(hb:Below W.heap.size W W'):∀ {ts:List TypeId} {vs:List Value} {ds:List (DataW H)} {p:List MemPlace},(∀t∈ts,P.readableRec t=true∧t<P.types.size) →
  ZCD enc P W 0 (fun _=>true) true ts vs ds p→(∀x∈p,x.block<W.heap.size)→(∀x∈p,sp' x.block=true)→ZCD enc P W' 0 sp' true ts vs ds p
 | [],_,_,_,_,h,_,_=>by
  obtain⟨rfl,rfl,rfl⟩:=trodAll_nil h;exact trodAll_mk0
 |t :: ts,_,_,_,ht,h,hlt,hsp=>by
  obtain⟨v,vs1,d,ds1,a,b,rfl,rfl,rfl,h1,h2⟩:=trodAll_cons h;obtain⟨r1,r2⟩:=ht t (by simp);exact trodAll_cons_mk (WideElems.Trod_stays hl r1 r2 h1 (fun x hx=>hb.same (hlt x (by simp[hx]))) (fun x hx=>hsp x (by simp[hx])))
   (Gb hl hb (fun t' ht'=>ht t' (by simp[ht'])) h2 (fun x hx=>hlt x (by simp[hx])) (fun x hx=>hsp x (by simp[hx])))
theorem fw {f:Func}{s:ChangeSpec}{apart fresh handsOn again:Bool}{W W':World}{args:Array Value}{ds:List (DataW H)} {p:List MemPlace} {tb:TypeId} (hl:laidOutB P=true)
  (hW:DataW.Whole enc P f.params.toList s.vars apart W args.toList ds [] p) (hA:ZCD enc P W 0 (fun _=>true) true f.params.toList args.toList ds p) (hv:s.vars=[])
  (hts:∀t∈f.params.toList,P.readableRec t=true∧t<P.types.size) (TDR:f.resultTypes=#[tb]) (hb:P.underlying tb=some .bool)
  (hfn:s.fn H (ds ++ [])={ results:=[.lit (.bool true)],args:=ds }) (TCc:Below W.heap.size W W'):s.post enc P f apart fresh handsOn again W args (.bool true) W':=by
 have hlt:∀x∈p,x.block<W.heap.size:=fun x hx=>by simpa using hW.lt x hx
 have TBC:∀sp:Nat→Bool,(∀q∈p,sp q.block=true)→ZCD enc P W' 0 sp true f.params.toList args.toList (s.fn H (ds ++ [])).args p:=fun sp hsp=>by
  rw[hfn];exact Gb hl TCc hts hA hlt hsp
 have TDi:∀sp:Nat→Bool,DataW.TrodVars enc P W' sp s.vars (s.fn H (ds ++ [])).vars []:=fun sp=>by
  rw[hfn,hv];rfl
 have hr:∀ (b:Nat) (sp:Nat→Bool) (hd:Bool),ZCD enc P W' b sp hd f.resultTypes.toList ((Value.bool true).resultList f.resultTypes.size) (s.fn H (ds ++ [])).results []:=fun b sp hd=>by
  rw[hfn,TDR];exact trodAll_cons_mk (shut_bool hb _) trodAll_mk0
 have hold:∀q∈p,(fun b=>decide (b<W.heap.size)) q.block=true:=fun q hq=>by simpa using hlt q hq
 refine⟨ds,[],p,[],p,[],hW,hr _ _ _,TBC _ hold,TDi _,World.keptBut_mono (fun q hq=>⟨hq,.inr (.inl hq)⟩) (TCc.frame _),fun _=>?_⟩;obtain⟨_,_,_,_,_,hz,hn⟩:=hW;refine⟨ok_one (by rw[TDR]) rfl (okWide_bool_mk hb _),_,_,([] ++ p) ++ [],⟨[] ++ p,[],trodAll_append (TBC _ (fun _ _=>rfl)) (hr _ _ _),TDi _,rfl,?_,?_⟩,?_⟩
 ·intro b off hp
  have hp':MemPlace.cell b off∈p:=by simpa using hp
  rw[TCc.frozen (p:=⟨b,off,none⟩) (hlt _ hp')];exact hz b off hp'
 ·intro ha
  simpa using hn ha
 ·intro q hq _
  simpa using hq
end
end Go.Ab
namespace Go.Ab
open Go Go.RowKit
noncomputable section
theorem FP {m:Nat}{s:AS}(f:Nat→AV):Sub m s { s with h:=s.h ++ [AO.row 0 0 f] }:=by
 intro N c a hst;have hH:=hst.heap;have TAM:(c.H ++ [AO.row 0 0 f])[c.H.length]?=some (.row 0 0 f):=by simp
 have TAI:∀i,i≠c.H.length→(c.H ++ [AO.row 0 0 f])[i]?=c.H[i]?:=fun i hi=>by
  have:=AA (nid:=none) (h:=c.H) (o:=.row 0 0 f) i (by simpa [QN]using hi)
  simpa [KL]using this
 obtain⟨g1,g2⟩:=HV hst.H_ (id:=c.H.length) (ver:=0) (w:=c.w) TAM TAI rfl (.inl (by simp));exact⟨⟨c.w,c.S,K2 c.γ c.H.length none,c.H ++ [.row 0 0 f]⟩,rfl,g2.toB m,hst.size,hst.defers,fun j=>g2.rep hst.H_ (hst.TAQ j),by simp[hH],g1⟩
theorem A5 {H:List AO}{id ver n M es:Nat}{f q:Nat→AV}(ho:H[id]?=some (.row ver n f)):Jj H (.sl 0 M q true) (.osl id ver es 0 0):=by
 intro c v hH _ hv;have J_:inf c.H id=some ver:=by simp[inf,hH,ho,AO.info]
 cases hv with
 |sl _ _ _ _ _ _ _ _ _ _ _ _ ht=>have:=ht rfl;subst this;exact .TAh _ _ _ _ _ J_
 |slz _ _ _ _ ht=>have:=ht rfl;subst this;exact .TAh _ _ _ _ _ J_
theorem Zf {m:Nat}{s:AS}(i:Nat)(b:AV)(hi:i<s.n0)(hw:Jj s.h (s.sl.getD i .any) b):Sub m s { s with sl:=s.sl.set i b }:=by
 intro N c a hst;refine⟨c,rfl,(Ext.refl c).toB m,hst.size,hst.defers,fun j=>?_,hst.heap,hst.H_⟩;have:=hst.TAQ j;unfold AS.get at this ⊢;by_cases hj:j<s.n0
 ·simp only[hj,if_true]at this ⊢
  by_cases he:j=i
  ·subst he
   by_cases hl:j<s.sl.length
   ·rw[K',W_ hl];exact hw _ _ hst.heap hst.H_ this
   ·rw[ZDR (by omega)];exact this
  ·rw[K',L_ (w_ he),←K'];exact this
 ·simp only[hj,if_false]at this ⊢;exact this
theorem WM {H:List AO}{n n' m m':Nat}{f f':Nat→AV}{t:Bool}(hn:n=n')(hm:m'≤m)(hf:∀j,j<m'→Jj H (f j) (f' j)):Jj H (.sl n m f t) (.sl n' m' f' false):=fun c v hH hR h=>by
 subst hn;cases h with
 |sl b base _ _ cap _ _ us hS hc hr hn ht=>exact .sl b base n m' cap f' false us hS (fun j hj=>hc j (by omega)) (fun j hj=>hf j hj c _ hH hR (hr j (by omega))) hn (by simp)
 |slz a cap _ _ ht =>
  obtain rfl:m'=0:=by omega
  exact .slz _ _ _ _ (by simp)
theorem JG {H:List AO}{id ver es n k M:Nat}{f g:Nat→AV}(ho:H[id]?=some (.con ver k f)) (hle:M≤k) (hM:n=0→M=0) (hg:∀j,j<M→Jj H (f j) (g j)):Jj H (.osl id ver es 0 n) (.sl n M g false):=by
 rintro c v rfl hr h;have J_:inf c.H id=some ver:=by simp[inf,ho,AO.info]
 have hns:¬TAe c.H id ver:=by
  rintro(⟨v',hi,hlt⟩ |hd)
  ·rw[J_]at hi;cases hi;omega
  ·simp[inf,hd,AO.info]at J_
 have hz:n=0→∀b cap,Rep c (.slice b 0 cap) (.sl n M g false):=by
  rintro hn b cap;rw[hn,hM hn];exact .slz _ _ _ _ (by simp)
 cases h with
 |osl _ _ _ _ _ cap b sz hi hgm hn TAY =>
  rcases hr.con id ver k f ho with⟨h1,h2⟩ | ⟨b',sz',cs,el,fr,h1,h2,h3,h4,h5,h6⟩
  ·rw[h1]at hgm;cases hgm
  ·rw[h1]at hgm;cases hgm
   refine .sl b 0 n M cap g false (fun j=>cs.getD j undef) h5 (fun j hj=>?_) (fun j hj=>hg j hj c _ rfl hr (h6 j (by omega))) hn (by simp);rw[cell_of_row c.w b _ cs el fr h2];have hlt:j<cs.size:=by omega
   simp[hlt,Array.getD]
 |TAh _ _ _ _ b hi=>exact hz rfl b 0
 |TAL _ _ _ _ _ b cap hn hs=>exact absurd hs hns
 |TAG _ _ _ _ b hs=>exact absurd hs hns
theorem ND {α:Type}(l:List α)(d:α)(j:Nat)(h:j<l.length):l.take (j+1)=l.take j ++ [l.getD j d]:=by
 rw[ZCa h,K',V' h];rfl
theorem H5 {α:Type}{l:List α}{d:α}{j:Nat}(h:j<l.length):l.getD j d∈l:=by
 rw[K',V' h];exact ZAR _
theorem wj (j:Nat)(h:j<4611686018427387904:=by omega):Q_.wrap ((j:Int)+1)=((j+1:Nat):Int):=by rw[M'];omega
theorem UJ {n n' m m':Nat}{f f':Nat→AV}{t:Bool}(hn:n=n')(hm:m'≤m)(hf:∀j,j<m'→f j=f' j):B' (.sl n m f t) (.sl n' m' f' false):=by subst hn;exact sT hm hf
theorem Cm {α:Type}(l:List α)(d:α)(i j:Nat)(h:i<j:=by omega):(l.take j).getD i d=l.getD i d:=by
 simp[K',ZAe,h]
theorem Xn {P:Program}{fn:Func}{str hcs:List Nat}{r v:AV}{s:AS}{t:Nat}(hr:fn.results=#[.tmp t])(h:s.get t=v)(hs:A_ r)(e:v=r):TAC (JK P fn str hcs r) s :=
 C4 hr (XY hs (h.trans e))
theorem mF {P:Program}{fn:Func}{str hcs:List Nat}{a b x y:AV}{s:AS}{t u:Nat}(hr:fn.results=#[.tmp t,.tmp u])(h1:s.get t=x)(h2:s.get u=y)(s1:A_ a)(s2:A_ b)(e1:x=a)(e2:y=b) :
  TAC (JK P fn str hcs (.tup [a,b])) s:=rE hr (DA ⟨XY s1 (h1.trans e1),XY s2 (h2.trans e2),trivial⟩)
theorem Mr {h h':List AO}(h1:∀ o∈h,∀ v n f,o≠.con v n f)(h2:∀o∈h',∀v n f,o≠.con v n f):K5 h h':=by
 intro id v n f;constructor
 ·intro h;exact absurd rfl (h1 _ (ZAK h) v n f)
 ·intro h;exact absurd rfl (h2 _ (ZAK h) v n f)
theorem QC {n n' m m':Nat}{f f':Nat→AV}{t:Bool}(hn:n=n')(hm:m'≤m)(hf:∀j,j<m'→B' (f j) (f' j)):B' (.sl n m f t) (.sl n' m' f' false):=fun c v h=>by
 subst hn;cases h with
 |sl b base _ _ cap _ _ us hS hc hr hn ht=>exact .sl b base n m' cap f' false us hS (fun j hj=>hc j (by omega)) (fun j hj=>hf j hj c _ (hr j (by omega))) hn (by simp)
 |slz a cap _ _ ht =>
  obtain rfl:m'=0:=by omega
  exact .slz _ _ _ _ (by simp)
theorem Xp {H:List AO}{a b:AV}(h:A_ b)(hw:B' a b):ZA H a b:=fun c v hH hr hv=>h.TBI H c v hH hr (hw c v hv)
theorem HY (l:List Int){n m:Nat}{f:Nat→AV}{t:Bool}(h1:n=l.length)(h2:l.length≤m)(hf:∀j,j<l.length→f j=I (l.getD j 0)):B' (.sl n m f t) (X9 l) :=
 UJ h1 h2 hf
theorem Wv {l:List Int}{H:List AO}{a:AV}{id ver n m:Nat}{g:Nat→AV}(ha:a=.osl id ver 1 0 m)(ho:H[id]?=some (.row ver n g)) (hm:m=l.length) (hn:l.length≤n) (hg:∀j,j<l.length→g j=I (l.getD j 0)):ZA H a (X9 l):=by
 subst ha;subst hm;exact Kw (.inl ho) (by omega) (by omega) fun j hj=>by rw[z_,hg j hj];exact(X8 _).TBI H
theorem ya (m:Nat)(n:Int):Jl m (I n):=X4 (X8 n)
theorem nT (L:List Int)(t:Bool):B' (.sl L.length L.length (Xf (L.map I)) t) (X9 L):=QC rfl (N' _) fun j hj=>by
 have:Xf (L.map I) j=I (L.getD j 0):=by
  unfold Xf;simp[K',hj]
 rw[this];exact B'.B_ _
theorem DC {m:Nat}{s:AS}(i:Nat)(b:AV)(hi:i<s.n0)(hw:B' (s.sl.getD i .any) b):Sub m s { s with sl:=s.sl.set i b }:=by
 intro N c a hst;refine⟨c,rfl,(Ext.refl c).toB m,hst.size,hst.defers,fun j=>?_,hst.heap,hst.H_⟩;have:=hst.TAQ j;unfold AS.get at this ⊢;by_cases hj:j<s.n0
 ·simp only[hj,if_true]at this ⊢
  by_cases he:j=i
  ·subst he
   by_cases hl:j<s.sl.length
   ·rw[K',W_ hl];exact hw _ _ this
   ·rw[ZDR (by omega)];exact this
  ·rw[K',L_ (w_ he),←K'];exact this
 ·simp only[hj,if_false]at this ⊢;exact this
theorem nV {l m:List AV}(h:TAF l m):B' (.tup l) (.tup m):=fun c v hv=>by
 cases hv with
 |tup vs _ hs hr =>
  obtain⟨e,h'⟩:=h.spec (c:=c);exact .tup vs m (by omega) fun j hj=>h' j (by omega) _ (hr j (by omega))
def Ap (n:Int):Prop:=-9223372036854775808≤n∧n<9223372036854775808
def Qk (n m:Int):Int:=(if n<0 then -(n+1)else n).tmod m
theorem QE (n m:Int)(h:0<m):0≤Qk n m∧Qk n m<m:=by
 unfold Qk;have:0≤(if n<0 then -(n+1)else n):=by split <;> omega
 generalize (if n<0 then -(n+1)else n)=x at this;rw[ZAH this];exact⟨ZBr _ (by omega),ZBO _ h⟩
def atF (l:List Int)(i m:Int):Int:=if i<0∨l.length≤i then 0 else Qk (l.getD i.toNat 0) m
theorem XF (l:List Int)(i m:Int)(h:0<m:=by omega):0≤atF l i m∧atF l i m<m:=by
 unfold atF
 split
 ·omega
 ·exact QE _ _ h
def Eo (l:List Int):Prop:=∀x∈l,Ap x
theorem iL {l:List Int}(h:Eo l)(i:Nat):Ap (l.getD i 0):=by
 rw[K'];cases hx:l[i]? with
 |none=>exact⟨by decide,by decide⟩
 |some x=>exact h x (ZAK hx)
theorem Z0 (g:FuncId):A_ (.fn g []):=Kg (by simp)
theorem HB {P:Program}{fn:Func}{str hcs:List Nat}{r v:AV}{s:AS}{t u:Nat}(hr:fn.results=#[.cell t u])(h:Qy P false u (s.get t) s.h=some v) (hs:ZA s.h v r):TAC (JK P fn str hcs r) s :=
 ⟨v,by simp[Au,Rd,Fz,hr,JL,A8,BO,h],hs⟩
end
end Go.Ab
namespace Go.Ab
open Go Go.RowKit
noncomputable section
set_option linter.defProp false
section
variable {α β:Type}
theorem oD (a:α)(l:List α)(n:Nat)(d:α):(a :: l).getD (n+1) d=l.getD n d:=C_ rfl
theorem oE (a:α)(l:List α)(d:α):(a :: l).getD 0 d=a:=C_ rfl
theorem uJ (a b:α)(l:List α)(n:Nat):(a :: l).set (n+1) b=a :: l.set n b:=C_ rfl
theorem uK (a b:α)(l:List α):(a :: l).set 0 b=b :: l:=C_ rfl
theorem uE (f:α→β)(a:α)(l:List α):(a :: l).map f=f a :: l.map f:=C_ rfl
theorem uF (f:α→β):([]:List α).map f=[]:=C_ rfl
theorem uq (f:α→Bool)(a:α)(l:List α):(a :: l).all f=(f a && l.all f):=C_ (List.all_cons ..)
theorem ur (f:α→Bool):([]:List α).all f=true:=C_ (List.all_nil ..)
theorem uC (a:α)(l:List α):(a :: l).length=l.length+1:=C_ rfl
theorem uD:([]:List α).length=0:=C_ rfl
theorem ut (a:α)(l m:List α):(a :: l) ++ m=a :: (l ++ m):=C_ rfl
theorem uv (m:List α):[] ++ m=m:=C_ rfl
theorem uu (l:List α):l ++ []=l:=C_ (ZAQ l)
theorem uA (a:α)(l:List α)(n:Nat):(a :: l)[n+1]?=l[n]?:=C_ rfl
theorem uB (a:α)(l:List α):(a :: l)[0]?=some a:=C_ rfl
theorem uH (a:α)(n:Nat):ZAP (n+1) a=a :: ZAP n a:=C_ rfl
theorem uI (a:α):ZAP 0 a=[]:=C_ rfl
theorem uw (a b:Nat)(l:List Nat):(a :: l).contains b=(b == a || l.contains b):=C_ (List.contains_cons ..)
theorem uz (b:Nat):([]:List Nat).contains b=false:=C_ rfl
theorem oH (f:α→β)(a:α):(some a).map f=some (f a):=C_ rfl
theorem oG (f:α→β):(none:Option α).map f=none:=C_ rfl
theorem uG (a:α):(some a).isSome=true:=C_ rfl
end
theorem xR:(0:Int).toNat=0:=C_ rfl
theorem xQ:(1:Int).toNat=1:=C_ rfl
theorem xN (n:Nat):(n:Int).toNat=n:=C_ rfl
theorem oB {α:Type}(a:α)(l:List α)(n:Nat):(a :: l).drop (n+1)=l.drop n:=C_ rfl
theorem oC {α:Type}(l:List α):l.drop 0=l:=C_ rfl
theorem oI {α:Type}(a:α)(l:List α)(n:Nat):(a :: l).take (n+1)=a :: l.take n:=C_ rfl
theorem oJ {α:Type}(l:List α):l.take 0=[]:=C_ rfl
theorem wv (i:Nat)(v:AV)(l:List (Nat×AV)) (j:Nat):XM ((i,v) :: l) j=if j=i then v else XM l j:=C_ rfl
theorem rD (i:Nat)(v:AV)(l:List (Nat×AV)) (d:Nat) (u:AV):Nl ((i,v) :: l) d u=if d=i then(i,u) :: l else(i,v) :: Nl l d u:=C_ rfl
theorem qj (hid:List Nat)(i:Nat)(v:AV)(l:List (Nat×AV)):IJ hid ((i,v) :: l)=if hid.contains i=true then(i,v) :: IJ hid l else IJ hid l:=C_ rfl
theorem ql (hid:List Nat):IJ hid []=[]:=C_ rfl
theorem jC (hc:Bool)(o:Oper)(os:List Oper):Gg hc (o :: os)=(if QJ hc o.op=2 then 1 else 0)+Gg hc os:=C_ rfl
theorem jD (hc:Bool):Gg hc []=0:=C_ rfl
section
variable (hc:Bool)
theorem jx (x:Operand):QJ hc (.move x)=0:=C_ rfl
theorem Vy (x:Operand):QJ hc (.assign x)=0:=C_ rfl
theorem jy (x y z:Operand):QJ hc (.pick x y z)=0:=C_ rfl
theorem R3 (x:Operand):QJ hc (.nilCheck x)=0:=C_ rfl
theorem pT (o:BinOp)(t:TypeId)(x y:Operand)(u:TypeId):QJ hc (.binOp o t x y u)=0:=C_ rfl
theorem vo (o:UnOp)(t:TypeId)(x:Operand):QJ hc (.unOp o t x)=0:=C_ rfl
theorem jv (t u:TypeId)(x:Operand):QJ hc (.convert t u x)=0:=C_ rfl
theorem NY (t:TypeId)(x:Operand)(j:Nat):QJ hc (.fieldAddr t x j)=0:=C_ rfl
theorem NZ (t:TypeId)(x y:Operand):QJ hc (.indexAddr t x y)=0:=C_ rfl
theorem SF (x:Operand)(j:Nat):QJ hc (.extract x j)=0:=C_ rfl
theorem dn (t:TypeId)(x:Operand)(a b c:Option Operand):QJ hc (.slice t x a b c)=0:=C_ rfl
theorem dk (t:TypeId)(ps:Array (Nat×Operand)):QJ hc (.build t ps)=0:=C_ rfl
theorem Mp (t:TypeId)(n:Nat)(ps:Array (Nat×Operand)):QJ hc (.buildSlice t n ps)=0:=C_ rfl
theorem jw (t:TypeId)(x:Operand):QJ hc (.load t x)=1:=C_ rfl
theorem dj (t:TypeId):QJ hc (.alloc t)=2:=C_ rfl
theorem dp (t:TypeId)(x y:Operand):QJ hc (.store t x y)=3:=C_ rfl
theorem pU (a:Array Operand)(ts:Array TypeId):QJ hc (.call { callee:=.builtin .len,args:=a,argTypes:=ts })=0:=C_ rfl
theorem pV (a:Array Operand)(ts:Array TypeId):QJ hc (.call { callee:=.builtin .max,args:=a,argTypes:=ts })=0:=C_ rfl
theorem Vx (a:Array Operand)(ts:Array TypeId):QJ hc (.call { callee:=.builtin .append,args:=a,argTypes:=ts })=3:=C_ rfl
theorem dm (f:Operand)(a:Array Operand)(ts:Array TypeId):QJ true (.call { callee:=.value f,args:=a,argTypes:=ts })=3:=C_ rfl
theorem dl (f:Operand)(a:Array Operand)(ts:Array TypeId):QJ false (.call { callee:=.value f,args:=a,argTypes:=ts })=1:=C_ rfl
end
section
variable (P:Program) (st:Bool) (t:TypeId) (h:List AO)
theorem mA (m:Nat)(f:Nat→AV)(off:Nat):rd none m f off=Qf (off<m) (some (f off)):=C_ rfl
theorem fF (n m:Nat)(f:Nat→AV)(off:Nat):rd (some n) m f off=Qf (off+n≤m) (some (.agg (QL f off 0 n))):=C_ rfl
theorem SE (f:Nat→AV)(off j:Nat):QL f off j 0=[]:=C_ rfl
theorem SD (f:Nat→AV)(off j n:Nat):QL f off j (n+1)=f (off+j) :: QL f off (j+1) n:=C_ rfl
theorem xw (f:Nat→AV)(i:Nat):DE f i []=f:=C_ rfl
theorem xv (f:Nat→AV)(i:Nat)(v:AV)(l:List AV):DE f i (v :: l)=DE (De f i v) (i+1) l:=C_ rfl
def Va (k:Option (Option Nat)) (st:Bool) (a:AV) (h:List AO):Option AV :=
 match k with
 |none=>none
 |some k =>
  match a with
  | .ptr m f off=>rd k m f off
  | .ref id ver off =>
   match h[id]? with
   |some (.row v m f)=>Qf (st=false∧v=ver) (rd k m f off)
   |some (.con v m f)=>Qf (v=ver) (rd k m f off)
   |_=>none
  |_=>none
theorem BA (a:AV):Qy P st t a h=Va (Cy P t) st a h:=C_ rfl
def Vc (k:Option Nat)(st:Bool)(ver off:Nat)(o:Option AO):Option AV :=
 match o with
 |some (.row v m f)=>Qf (st=false∧v=ver) (rd k m f off)
 |some (.con v m f)=>Qf (v=ver) (rd k m f off)
 |_=>none
variable (k:Option Nat)
theorem Vb (m:Nat)(f:Nat→AV)(off:Nat):Va (some k) st (.ptr m f off) h=rd k m f off:=C_ rfl
theorem Kz (id ver off:Nat):Va (some k) st (.ref id ver off) h=Vc k st ver off h[id]?:=C_ rfl
theorem KA (ver off v m:Nat)(f:Nat→AV):Vc k st ver off (some (.row v m f))=Qf (st=false∧v=ver) (rd k m f off):=C_ rfl
theorem Vd (ver off v m:Nat)(f:Nat→AV):Vc k st ver off (some (.con v m f))=Qf (v=ver) (rd k m f off):=C_ rfl
theorem Uq (v:AV):ZP true v=v.cells.map AV.boxed:=C_ rfl
theorem Up (v:AV):ZP false v=v.cells.map AV.loose:=C_ rfl
def Yh (st:Bool)(ts:Option Nat)(id ver off:Nat)(v:AV)(h:List AO)(o:Option AO):Option (List AO) :=
 match o with
 |some (.row v' m f)=>Qf (v'=ver∧ts=some v.cells.length∧v.cells≠[]∧off+v.cells.length≤m∧v.cells.all AV.one=true) (some (h.set id (.row v' m (DE f off (ZP st v)))))
 |_=>none
theorem Mc (id ver off:Nat)(v:AV):ZC P st t (.ref id ver off) v h=Yh st (Zn P t) id ver off v h h[id]?:=C_ rfl
theorem II (ts:Option Nat)(id ver off:Nat)(v:AV)(v' m:Nat)(f:Nat→AV):Yh st ts id ver off v h (some (.row v' m f)) =
  Qf (v'=ver∧ts=some v.cells.length∧v.cells≠[]∧off+v.cells.length≤m∧v.cells.all AV.one=true) (some (h.set id (.row v' m (DE f off (ZP st v))))):=C_ rfl
def GF (e:Option (TypeId×Nat×Nat)) (P:Program) (t:TypeId) (x:AV) (i:Int):Option AV :=
 match e with
 |some (_,s,_) =>
  match x with
  | .sl n m f _=>Qf (0≤i∧i<n) (some (.ptr m f (i.toNat*s)))
  | .osl id ver _ off n=>Qf (0≤i∧i<n) (some (.ref id ver (off+i.toNat*s)))
  |_=>none
 |none =>
  match gD P t with
  |some (n,s,_) =>
   match x with
   | .ptr m f off=>Qf (0≤i∧i<n) (some (.ptr m f (off+i.toNat*s)))
   | .ref id ver off=>Qf (0≤i∧i<n) (some (.ref id ver (off+i.toNat*s)))
   |_=>none
  |none=>none
theorem Sl (x:AV)(k:IntKind)(i:Int):DL P t x (.int k i)=GF (AL P t) P t x i:=C_ (by
 unfold DL GF;first |rfl | (cases AL P t <;> first |rfl | (cases x <;> rfl) | (cases gD P t <;> first |rfl | (cases x <;> rfl))))
def PL (a:Option (Nat×Nat×Option Nat)) (x:AV) (i:Int):Option AV :=
 match a with
 |some (n,s,_) =>
  match x with
  | .ptr m f off=>Qf (0≤i∧i<n) (some (.ptr m f (off+i.toNat*s)))
  | .ref id ver off=>Qf (0≤i∧i<n) (some (.ref id ver (off+i.toNat*s)))
  |_=>none
 |none=>none
theorem V8 (e s b n m:Nat)(f:Nat→AV)(q:Bool)(i:Int):GF (some (e,s,b)) P t (.sl n m f q) i=Qf (0≤i∧i<n) (some (.ptr m f (i.toNat*s))):=C_ rfl
theorem IF (e s b id ver es off n:Nat)(i:Int):GF (some (e,s,b)) P t (.osl id ver es off n) i=Qf (0≤i∧i<n) (some (.ref id ver (off+i.toNat*s))):=C_ rfl
theorem PM (x:AV)(i:Int):GF none P t x i=PL (gD P t) x i:=C_ rfl
theorem Sj (n s:Nat)(q:Option Nat)(m:Nat)(f:Nat→AV)(off:Nat)(i:Int):PL (some (n,s,q)) (.ptr m f off) i=Qf (0≤i∧i<n) (some (.ptr m f (off+i.toNat*s))):=C_ rfl
theorem Sk (n s:Nat)(q:Option Nat)(id ver off:Nat)(i:Int):PL (some (n,s,q)) (.ref id ver off) i=Qf (0≤i∧i<n) (some (.ref id ver (off+i.toNat*s))):=C_ rfl
def M7 (k:Option (Nat×Nat×Option Nat)) (x:AV):Option AV :=
 match k with
 |some (o,_,_) =>
  match x with
  | .ptr m f off=>some (.ptr m f (off+o))
  | .ref id ver off=>some (.ref id ver (off+o))
  |_=>none
 |none=>none
theorem I3 (x:AV)(i:Nat):CM P t x i=M7 (C9 P t i) x:=C_ rfl
theorem PJ (o s:Nat)(q:Option Nat)(m:Nat)(f:Nat→AV)(off:Nat):M7 (some (o,s,q)) (.ptr m f off)=some (.ptr m f (off+o)):=C_ rfl
theorem DK (o s:Nat)(q:Option Nat)(id ver off:Nat):M7 (some (o,s,q)) (.ref id ver off)=some (.ref id ver (off+o)):=C_ rfl
def WZ (k:Option (Nat×Nat×Option Nat)) (x:AV):Option AV :=
 match k with
 |some (o,_,k)=>match x with | .agg l=>apart k l o |_=>none
 |none=>none
theorem iH (x:AV)(i:Nat):I2 P t x i=WZ (C9 P t i) x:=C_ rfl
theorem Si (o s:Nat)(q:Option Nat)(l:List AV):WZ (some (o,s,q)) (.agg l)=apart q l o:=C_ rfl
theorem p8 (l:List AV)(off:Nat):apart none l off=Qf (off<l.length) (some (l.getD off .any)):=C_ rfl
theorem p9 (n:Nat)(l:List AV)(off:Nat):apart (some n) l off=Qf (off+n≤l.length) (some (.agg ((l.drop off).take n))):=C_ rfl
theorem lc (d:Int):JE none d=some d:=C_ rfl
theorem ld (k:IntKind)(n d:Int):JE (some (.int k n)) d=some n:=C_ rfl
def Lx (e:Option (TypeId×Nat×Nat)) (x:AV) (lo hi mx:Option AV):Option AV :=
 match e,mx with
 |some (_,s,_),none =>
  match x with
  | .sl n m f t =>
   match JE lo 0,JE hi n with
   |some l,some h=>Qf (0≤l∧l≤h∧h≤n) (some (.sl (h-l).toNat (min ((h-l).toNat*s) (m-l.toNat*s)) (fun j=>f (l.toNat*s+j)) (t && decide (h=n))))
   |_,_=>none
  | .osl id ver es off n =>
   match JE lo 0,JE hi n with
   |some l,some h=>Qf (0≤l∧l≤h∧h≤n∧es=s) (some (.osl id ver es (off+l.toNat*s) (h-l).toNat))
   |_,_=>none
  |_=>none
 |some (_,s,_),some mx =>
  match x with
  | .sl n m f _ =>
   match JE lo 0,JE hi n,mx with
   |some l,some h,.int _ q=>Qf (0≤l∧l≤h∧h≤n∧q=h) (some (.sl (h-l).toNat (min ((h-l).toNat*s) (m-l.toNat*s)) (fun j=>f (l.toNat*s+j)) true))
   |_,_,_=>none
  |_=>none
 |_,_=>none
theorem iY (x:AV)(lo hi mx:Option AV):EF P t x lo hi mx=Lx (AL P t) x lo hi mx:=C_ rfl
def Ye (s n m:Nat)(f:Nat→AV)(t:Bool)(a b:Option Int):Option AV :=
 match a,b with
 |some l,some h=>Qf (0≤l∧l≤h∧h≤n) (some (.sl (h-l).toNat (min ((h-l).toNat*s) (m-l.toNat*s)) (fun j=>f (l.toNat*s+j)) (t && decide (h=n))))
 |_,_=>none
def Yd (s id ver es off n:Nat)(a b:Option Int):Option AV :=
 match a,b with
 |some l,some h=>Qf (0≤l∧l≤h∧h≤n∧es=s) (some (.osl id ver es (off+l.toNat*s) (h-l).toNat))
 |_,_=>none
def Yf (s n m:Nat)(f:Nat→AV)(a b:Option Int)(mx:AV):Option AV :=
 match a,b,mx with
 |some l,some h,.int _ q=>Qf (0≤l∧l≤h∧h≤n∧q=h) (some (.sl (h-l).toNat (min ((h-l).toNat*s) (m-l.toNat*s)) (fun j=>f (l.toNat*s+j)) true))
 |_,_,_=>none
theorem Vj (e s b n m:Nat)(f:Nat→AV)(q:Bool)(lo hi:Option AV):Lx (some (e,s,b)) (.sl n m f q) lo hi none=Ye s n m f q (JE lo 0) (JE hi n):=C_ rfl
theorem Sp (e s b id ver es off n:Nat)(lo hi:Option AV):Lx (some (e,s,b)) (.osl id ver es off n) lo hi none=Yd s id ver es off n (JE lo 0) (JE hi n):=C_ rfl
theorem Sq (e s b n m:Nat)(f:Nat→AV)(q:Bool)(lo hi:Option AV)(mx:AV):Lx (some (e,s,b)) (.sl n m f q) lo hi (some mx)=Yf s n m f (JE lo 0) (JE hi n) mx:=C_ rfl
theorem cJ (s n m:Nat)(f:Nat→AV)(q:Bool)(l h:Int):Ye s n m f q (some l) (some h)=Qf (0≤l∧l≤h∧h≤n) (some (.sl (h-l).toNat (min ((h-l).toNat*s) (m-l.toNat*s)) (fun j=>f (l.toNat*s+j)) (q && decide (h=n)))):=C_ rfl
theorem cI (s id ver es off n:Nat)(l h:Int):Yd s id ver es off n (some l) (some h)=Qf (0≤l∧l≤h∧h≤n∧es=s) (some (.osl id ver es (off+l.toNat*s) (h-l).toNat)):=C_ rfl
theorem cK (s n m:Nat)(f:Nat→AV)(l h:Int)(k:IntKind)(q:Int):Yf s n m f (some l) (some h) (.int k q)=Qf (0≤l∧l≤h∧h≤n∧q=h) (some (.sl (h-l).toNat (min ((h-l).toNat*s) (m-l.toNat*s)) (fun j=>f (l.toNat*s+j)) true)):=C_ rfl
theorem oZ (n m:Nat)(f:Nat→AV)(q:Bool):NS P t (.sl n m f q)=Qf ((AL P t).isSome=true) (some (.int .i64 n)):=C_ rfl
theorem iK (a b c d n:Nat):NS P t (.osl a b c d n)=Qf ((AL P t).isSome=true) (some (.int .i64 n)):=C_ rfl
def ix (a b:Option IntKind)(x:AV):Option AV :=
 match a,b,x with
 |some _,some k,.int _ n=>some (.int k (k.wrap n))
 |_,_,_=>none
theorem oW (u:TypeId)(x:AV):Oh P t u x=ix (VS P t) (VS P u) x:=C_ rfl
theorem iy (a k q:IntKind)(n:Int):ix (some a) (some k) (.int q n)=some (.int k (k.wrap n)):=C_ rfl
theorem wH (o:AO):KL none h o=h ++ [o]:=C_ rfl
theorem wI (id:Nat)(o:AO):KL (some id) h o=h.set id o:=C_ rfl
theorem rt:QN none h=h.length:=C_ rfl
theorem ru (id:Nat):QN (some id) h=id:=C_ rfl
variable (nid:Option Nat)
def WU (z:Option (List AV)) (nid:Option Nat) (h:List AO):Option (AV×List AO) :=
 match z with
 |some z=>some (.ref (QN nid h) 0 0,KL nid h (.row 0 z.length (Xf z)))
 |none=>none
theorem ib:Bd P nid t h=WU (Qh P t) nid h:=C_ rfl
theorem bu (z:List AV):WU (some z) nid h=some (.ref (QN nid h) 0 0,KL nid h (.row 0 z.length (Xf z))):=C_ rfl
theorem uP (v:AV):NO nid v h=Qf (v.cells.all AV.one=true) (some (.ref (QN nid h) 0 0,KL nid h (.row 0 v.cells.length (Xf (v.cells.map AV.boxed))))):=C_ rfl
def Ve (e:Option (TypeId×Nat×Nat)) (P:Program) (nid:Option Nat) (n m:Int) (h:List AO):Option (AV×List AO) :=
 match e with
 |some (e,s,by_) =>
  match Qh P e with
  |some z=>Qf (m=n∧0≤n∧by_*n≤140737488355328∧n≤9223372036854775807) (some (.osl (QN nid h) 0 s 0 n.toNat,KL nid h (.row 0 (n.toNat*s) (KY z))))
  |none=>none
 |none=>none
theorem p7 (a b:IntKind)(n m:Int):Ep P nid t (.int a n) (.int b m) h=Ve (AL P t) P nid n m h:=C_ (by
 unfold Ep Ve;cases AL P t <;> first |rfl | (rename_i x;obtain⟨_,_,_⟩:=x;rfl))
def iN (z:Option (List AV)) (s by_:Nat) (nid:Option Nat) (n m:Int) (h:List AO):Option (AV×List AO) :=
 match z with
 |some z=>Qf (m=n∧0≤n∧by_*n≤140737488355328∧n≤9223372036854775807) (some (.osl (QN nid h) 0 s 0 n.toNat,KL nid h (.row 0 (n.toNat*s) (KY z))))
 |none=>none
theorem iM (e s b:Nat)(n m:Int):Ve (some (e,s,b)) P nid n m h=iN (Qh P e) s b nid n m h:=C_ rfl
theorem iO (z:List AV)(s b:Nat)(n m:Int):iN (some z) s b nid n m h=Qf (m=n∧0≤n∧b*n≤140737488355328∧n≤9223372036854775807) (some (.osl (QN nid h) 0 s 0 n.toNat,KL nid h (.row 0 (n.toNat*s) (KY z)))):=C_ rfl
theorem Yg (s n m:Nat)(g:Nat→AV)(q:Bool):DN s (.sl n m g q) h=Qf (n*s≤m) (some (n,g)):=C_ rfl
def iA (e:Option (TypeId×Nat×Nat)) (x y:AV) (h:List AO):Option (AV×List AO) :=
 match e with
 |none=>none
 |some (_,s,_) =>
  match DN s y h with
  |none=>none
  |some (m,g) =>
   match x with
   | .osl id ver es off n =>
    match h[id]? with
    |some (.row v k f)=>Qf (v=ver∧es=s∧off+min m n*s≤k∧(∀j,j<min m n*s→(g j).one=true))
      (some (.int .i64 ((min m n:Nat):Int),h.set id (.row v k (Mt off (min m n*s) f g))))
    |_=>none
   |_=>none
theorem oX (x y:AV):FX P t x y h=iA (AL P t) x y h:=C_ rfl
def iE (o:Option (Nat×(Nat→AV))) (s:Nat) (x:AV) (h:List AO):Option (AV×List AO) :=
 match o with
 |none=>none
 |some (m,g) =>
  match x with
  | .osl id ver es off n =>
   match h[id]? with
   |some (.row v k f)=>Qf (v=ver∧es=s∧off+min m n*s≤k∧(∀j,j<min m n*s→(g j).one=true))
     (some (.int .i64 ((min m n:Nat):Int),h.set id (.row v k (Mt off (min m n*s) f g))))
   |_=>none
  |_=>none
theorem iB (e s b:Nat)(x y:AV):iA (some (e,s,b)) x y h=iE (DN s y h) s x h:=C_ rfl
def iC (o:Option AO)(id ver es off n s m:Nat)(g:Nat→AV)(h:List AO):Option (AV×List AO) :=
 match o with
 |some (.row v k f)=>Qf (v=ver∧es=s∧off+min m n*s≤k∧(∀j,j<min m n*s→(g j).one=true))
     (some (.int .i64 ((min m n:Nat):Int),h.set id (.row v k (Mt off (min m n*s) f g))))
 |_=>none
theorem V6 (m s id ver es off n:Nat)(g:Nat→AV):iE (some (m,g)) s (.osl id ver es off n) h=iC h[id]? id ver es off n s m g h:=C_ rfl
theorem iD (id ver es off n s m v k:Nat)(f g:Nat→AV):iC (some (.row v k f)) id ver es off n s m g h =
 Qf (v=ver∧es=s∧off+min m n*s≤k∧(∀j,j<min m n*s→(g j).one=true))
     (some (.int .i64 ((min m n:Nat):Int),h.set id (.row v k (Mt off (min m n*s) f g)))):=C_ rfl
def tw (e:Option (TypeId×Nat×Nat)) (x y:AV) (h:List AO):Option (AV×List AO) :=
 match e with
 |none=>none
 |some (_,s,by_) =>
  match DN s y h with
  |none=>none
  |some (m,g) =>
   match x with
   | .osl id ver es off n =>
    match h[id]? with
    |some (.row v k f)=>Qf (v=ver∧es=s∧off=0∧n*s≤k∧(∀j,j<m*s→(g j).one=true)∧(n+m)*by_≤140737488355328∧n+m≤9223372036854775807)
      (some (.osl id (v+1) s 0 (n+m),h.set id (.row (v+1) ((n+m)*s) (XV (n*s) f (m*s) g))))
    |_=>none
   | .sl n k f true=>if m=0∧0<n then some (.sl n k f true,h)else Qf (n*s≤k∧(n=0∨0<m)∧(∀j,j<m*s→(g j).one=true)∧(n+m)*by_≤140737488355328∧n+m≤9223372036854775807)
      (some (.osl h.length 0 s 0 (n+m),h ++ [.row 0 ((n+m)*s) (XV (n*s) f (m*s) g)]))
   |_=>none
theorem ig (x y:AV):J5 P t x y h=tw (AL P t) x y h:=C_ rfl
def ic (o:Option (Nat×(Nat→AV))) (s by_:Nat) (x:AV) (h:List AO):Option (AV×List AO) :=
 match o with
 |none=>none
 |some (m,g) =>
  match x with
  | .osl id ver es off n =>
   match h[id]? with
   |some (.row v k f)=>Qf (v=ver∧es=s∧off=0∧n*s≤k∧(∀j,j<m*s→(g j).one=true)∧(n+m)*by_≤140737488355328∧n+m≤9223372036854775807)
     (some (.osl id (v+1) s 0 (n+m),h.set id (.row (v+1) ((n+m)*s) (XV (n*s) f (m*s) g))))
   |_=>none
  | .sl n k f true=>if m=0∧0<n then some (.sl n k f true,h)else Qf (n*s≤k∧(n=0∨0<m)∧(∀j,j<m*s→(g j).one=true)∧(n+m)*by_≤140737488355328∧n+m≤9223372036854775807)
     (some (.osl h.length 0 s 0 (n+m),h ++ [.row 0 ((n+m)*s) (XV (n*s) f (m*s) g)]))
  |_=>none
theorem WV (e s b:Nat)(x y:AV):tw (some (e,s,b)) x y h=ic (DN s y h) s b x h:=C_ rfl
def tz (o:Option AO)(id ver es off n s by_ m:Nat)(g:Nat→AV)(h:List AO):Option (AV×List AO) :=
 match o with
 |some (.row v k f)=>Qf (v=ver∧es=s∧off=0∧n*s≤k∧(∀j,j<m*s→(g j).one=true)∧(n+m)*by_≤140737488355328∧n+m≤9223372036854775807)
     (some (.osl id (v+1) s 0 (n+m),h.set id (.row (v+1) ((n+m)*s) (XV (n*s) f (m*s) g))))
 |_=>none
theorem I1 (m s b id ver es off n:Nat)(g:Nat→AV):ic (some (m,g)) s b (.osl id ver es off n) h=tz h[id]? id ver es off n s b m g h:=C_ rfl
theorem ie (m s b n k:Nat)(f g:Nat→AV):ic (some (m,g)) s b (.sl n k f true) h =
 if m=0∧0<n then some (.sl n k f true,h)else Qf (n*s≤k∧(n=0∨0<m)∧(∀j,j<m*s→(g j).one=true)∧(n+m)*b≤140737488355328∧n+m≤9223372036854775807)
     (some (.osl h.length 0 s 0 (n+m),h ++ [.row 0 ((n+m)*s) (XV (n*s) f (m*s) g)])):=C_ rfl
theorem PF (id ver es off n s b m v k:Nat)(f g:Nat→AV):tz (some (.row v k f)) id ver es off n s b m g h =
 Qf (v=ver∧es=s∧off=0∧n*s≤k∧(∀j,j<m*s→(g j).one=true)∧(n+m)*b≤140737488355328∧n+m≤9223372036854775807)
     (some (.osl id (v+1) s 0 (n+m),h.set id (.row (v+1) ((n+m)*s) (XV (n*s) f (m*s) g)))):=C_ rfl
theorem xe (l:List AV)(i:Nat):HG l i []=l:=C_ rfl
theorem xd (l:List AV)(i:Nat)(a:AV)(r:List AV):HG l i (a :: r)=HG (l.set i a) (i+1) r:=C_ rfl
theorem xH (z:List AV):FW z 0=[]:=C_ rfl
theorem xG (z:List AV)(n:Nat):FW z (n+1)=z ++ FW z n:=C_ rfl
theorem oV (pl:Nat→Option (Nat×Nat)) (l:List AV):Aj pl l []=some l:=C_ (by cases l <;> rfl)
def i9 (o:Option (Nat×Nat)) (pl:Nat→Option (Nat×Nat)) (cells:List AV) (v:AV) (rest:List (Nat×AV)):Option (List AV) :=
 match o with
 |some (off,size)=>Qf (v.cells.length=size∧off+size≤cells.length∧v.cells.all AV.one=true) (Aj pl (HG cells off (v.cells.map AV.loose)) rest)
 |none=>none
theorem oU (pl:Nat→Option (Nat×Nat)) (l:List AV) (i:Nat) (v:AV) (r:List (Nat×AV)):Aj pl l ((i,v) :: r)=i9 (pl i) pl l v r:=C_ (by cases l <;> rfl)
theorem ia (pl:Nat→Option (Nat×Nat)) (l:List AV) (v:AV) (r:List (Nat×AV)) (off size:Nat):i9 (some (off,size)) pl l v r =
 Qf (v.cells.length=size∧off+size≤l.length∧v.cells.all AV.one=true) (Aj pl (HG l off (v.cells.map AV.loose)) r):=C_ rfl
def WX (z:Option (List AV)) (P:Program) (t:TypeId) (parts:List (Nat×AV)):Option AV :=
 match z with
 |some z=>Qf (AC P t=true) ((Aj (QK P t) z parts).map .agg)
 |none=>none
theorem Sc (ps:List (Nat×AV)):Gc P t ps=WX (Qh P t) P t ps:=C_ rfl
theorem Of (z:List AV)(ps:List (Nat×AV)):WX (some z) P t ps=Qf (AC P t=true) ((Aj (QK P t) z ps).map .agg):=C_ rfl
def Sa (e:Option (TypeId×Nat×Nat)) (P:Program) (n:Nat) (parts:List (Nat×AV)):Option AV :=
 match e with
 |some (e,s,_) =>
  match Qh P e with
  |some z=>Qf (n*s≤2 ^ 24) ((Aj (fun i=>some (i*s,s)) (FW z n) parts).map fun l=>.sl n (n*s) (Xf l) true)
  |none=>none
 |none=>none
theorem Og (n:Nat)(ps:List (Nat×AV)):Ki P t n ps=Sa (AL P t) P n ps:=C_ rfl
def Sb (z:Option (List AV)) (s n:Nat) (parts:List (Nat×AV)):Option AV :=
 match z with
 |some z=>Qf (n*s≤2 ^ 24) ((Aj (fun i=>some (i*s,s)) (FW z n) parts).map fun l=>.sl n (n*s) (Xf l) true)
 |none=>none
theorem M3 (e s b n:Nat)(ps:List (Nat×AV)):Sa (some (e,s,b)) P n ps=Sb (Qh P e) s n ps:=C_ rfl
theorem M6 (z:List AV)(s n:Nat)(ps:List (Nat×AV)):Sb (some z) s n ps=Qf (n*s≤2 ^ 24) ((Aj (fun i=>some (i*s,s)) (FW z n) ps).map fun l=>.sl n (n*s) (Xf l) true):=C_ rfl
theorem ym (u:TypeId)(m:Nat)(ps:List (Nat×AV)) (h:List AO) (K:AV→List AO→Prop):yl false P u m ps h K=Q2 (Ki P u m ps) fun v=>K v h:=C_ rfl
theorem yn (u:TypeId)(m:Nat)(ps:List (Nat×AV)) (h:List AO) (K:AV→List AO→Prop):yl true P u m ps h K=Q2 (Zv P u m ps h) fun r=>K r.1 r.2:=C_ rfl
def xW (e:Option (TypeId×Nat×Nat)) (x:Option AV) (h:List AO):Option (AV×List AO) :=
 match e with
 |some (_,s,_) =>
  match x with
  |some (.sl k m f _)=>some (.osl h.length 0 s 0 k,h ++ [.row 0 m f])
  |_=>none
 |none=>none
theorem bY (n:Nat)(ps:List (Nat×AV)) (h:List AO):Zv P t n ps h=xW (AL P t) (Ki P t n ps) h:=C_ rfl
theorem uO (e s b k m:Nat)(f:Nat→AV)(t:Bool)(h:List AO):xW (some (e,s,b)) (some (.sl k m f t)) h=some (.osl h.length 0 s 0 k,h ++ [.row 0 m f]):=C_ rfl
def Vk (a:Option (TypeId×Nat×Nat)) (b:Option IntKind) (P:Program) (x y:AV) (h:List AO):Option (AV×List AO) :=
 match a,b,x,y with
 |some (e,s,by_),some .i64,.sl 0 _ _ true,.int .i64 n =>
  match Qh P e with
  |some z=>Qf (0<n∧by_*n≤140737488355328∧n≤9223372036854775807) (some (.osl h.length 0 s 0 n.toNat,h ++ [.row 0 (n.toNat*s) (KY z)]))
  |none=>none
 |some (e,s,by_),some .i64,.sl (N+1) k f true,.int .i64 n =>
  match Qh P e with
  |some z=>if n=0 then some (.sl (N+1) k f true,h)else Qf (0<n∧(N+1)*s≤k∧by_*(N+1+n)≤140737488355328∧(N:Int)+1+n≤9223372036854775807) (some (.osl h.length 0 s 0 (N+1+n.toNat),h ++ [.row 0 ((N+1+n.toNat)*s) (XV ((N+1)*s) f (n.toNat*s) (KY z))]))
  |none=>none
 |some (e,s,by_),some .i64,.osl id ver es off N,.int .i64 n =>
  match Qh P e with
  |some z=>match h[id]? with
   |some (.row v k f)=>if n=0 then some (.osl id ver es off N,h)else Qf (0<n∧0<N∧v=ver∧es=s∧off=0∧N*s≤k∧z.all AV.one=true∧by_*(N+n)≤140737488355328∧(N:Int)+n≤9223372036854775807) (some (.osl id (v+1) s 0 (N+n.toNat),h.set id (.row (v+1) ((N+n.toNat)*s) (XV (N*s) f (n.toNat*s) (KY z)))))
   |_=>none
  |none=>none
 |_,_,_,_=>none
theorem Fo (u:TypeId)(x y:AV):K8 P t u x y h=Vk (AL P t) (VS P u) P x y h:=C_ rfl
def iZ (z:Option (List AV)) (s by_ N k:Nat) (f:Nat→AV) (n:Int) (h:List AO):Option (AV×List AO) :=
 match z with
 |some z=>if n=0 then some (.sl (N+1) k f true,h)else Qf (0<n∧(N+1)*s≤k∧by_*(N+1+n)≤140737488355328∧(N:Int)+1+n≤9223372036854775807) (some (.osl h.length 0 s 0 (N+1+n.toNat),h ++ [.row 0 ((N+1+n.toNat)*s) (XV ((N+1)*s) f (n.toNat*s) (KY z))]))
 |none=>none
theorem Mf (e s b N k:Nat)(f:Nat→AV)(n:Int):Vk (some (e,s,b)) (some .i64) P (.sl (N+1) k f true) (.int .i64 n) h=iZ (Qh P e) s b N k f n h:=C_ rfl
theorem Mh (z:List AV)(s b N k:Nat)(f:Nat→AV)(n:Int):iZ (some z) s b N k f n h=if n=0 then some (.sl (N+1) k f true,h)else Qf (0<n∧(N+1)*s≤k∧b*(N+1+n)≤140737488355328∧(N:Int)+1+n≤9223372036854775807) (some (.osl h.length 0 s 0 (N+1+n.toNat),h ++ [.row 0 ((N+1+n.toNat)*s) (XV ((N+1)*s) f (n.toNat*s) (KY z))])):=C_ rfl
end
theorem dY (m:Nat)(f:Nat→AV)(o:Nat):(AV.ptr m f o).TAl=true:=C_ rfl
theorem OJ (a b c:Nat):(AV.ref a b c).TAl=true:=C_ rfl
theorem wg (l:List Int):X9 l=.sl l.length l.length (J8 I 0 l) false:=C_ rfl
theorem s8 (l:List Nat)(id i:Nat):HM l id i=(l.contains id && !l.contains (1000*id+1000+i)):=C_ rfl
section
variable (m:Nat)
theorem y5:Jl m .any=True:=L' fun _ v _=>.any v
theorem y6 (k:IntKind)(n:Int):Jl m (.int k n)=True:=L' (X4 (Jv k n))
theorem b_I (n:Int):Jl m (I n)=True:=L' (X4 (X8 n))
theorem uX (b:Bool):Jl m (.bool b)=True:=L' (X4 (X5 b))
theorem y8 {id v o:Nat}(h:id<m):Jl m (.ref id v o)=True:=L' (QX h)
theorem y7 {id v e o n:Nat}(h:id<m):Jl m (.osl id v e o n)=True:=L' (JJ h)
theorem uY (l:List Int):Jl m (X9 l)=True:=L' (X4 (Xd l))
theorem y9 (n:Nat)(f:Nat→AV)(t:Bool):Jl m (.sl n 0 f t)=True:=L' (X4 (Qw fun _ h=>absurd h (ZAL _)))
theorem xZ {l:List AV}(h:∀a∈l,Jl m a):Jl m (.agg l)=True:=L' (ph h)
theorem zB (v n:Nat)(l:List Int):Q0 m (.row v n (J8 I 0 l))=True:=L' fun _ _=>X4 (X8 _)
theorem C7 {l:List AV}(h:∀ a∈l,Jl m a)(j:Nat):Jl m (Xf l j):=by
 show Jl m (l.getD j .any);rw[K'];by_cases hj:j<l.length
 ·rw[V' hj];exact h _ (ZAR _)
 ·rw[k_ (by omega)];exact X4 Jg
theorem zD {v n:Nat}{l:List AV}(h:∀a∈l,Jl m a):Q0 m (.row v n (Xf l))=True:=L' fun j _=>C7 m h j
theorem uW {v n:Nat}{l:List AV}(h:∀a∈l,Jl m a):Q0 m (.con v n (Xf l))=True:=L' fun j _=>C7 m h j
end
def XP:=XB @y5 <| XB @y6 <| XB @b_I <| XB @uX <| XB @y8 <| XB @y7 <| XB @uY <| XB @y9 <| XB @xZ <| XB @zB <| XB @zD <| @uW
def zi:=XB @z_ <| XB @ZAm <| XB @Nat.zero_lt_succ <| XB @Nat.min_self <| XB @Nat.zero_min <| XB @Nat.min_zero <| XB @Nat.sub_zero <| XB @ZA8 <| XB @ZB2 <| XB @N' <| XB @ZAG <| XB @Nat.mul_one <| XB @Bool.false_eq_true <| XB @Bool.true_eq_false <| XB @decide_true <| XB @decide_false <| XB @decide_eq_true_eq <| XB @decide_eq_false_iff_not <| XB @Bool.not_true <| XB @Bool.not_false <| XB @ZDW <| XB @Bool.not_eq_false' <| XB @Bool.and_true <| XB @ZBt <| XB @Bool.false_and <| XB @true_and <| XB @and_true <| XB @false_and <| XB @and_false <| XB @not_true_eq_false <| XB @not_false_eq_true <| XB @or_true <| XB @true_or <| XB @or_false <| XB @false_or <| XB @Bool.or_false <| XB @Bool.or_true <| XB @Bool.false_or <| XB @Bool.true_or <| XB @Int.natCast_nonneg <| XB @Int.ofNat_lt <| XB @Int.ofNat_le <| XB @Int.ofNat_inj <| @Int.ofNat_zero
def zj:=XB @ym <| XB @yn <| XB @bY <| XB @uO <| XB @Mf <| XB @Mh <| XB @oD <| XB @oE <| XB @uJ <| XB @uK <| XB @uE <| XB @uF <| XB @uq <| XB @ur <| XB @uC <| XB @uD <| XB @ut <| XB @uv <| XB @uu <| XB @uA <| XB @uB <| XB @uH <| XB @uI <| XB @uw <| XB @uz <| XB @oH <| XB @oG <| XB @uG <| XB @xR <| XB @xQ <| XB @xN <| XB @oB <| XB @oC <| XB @oI <| XB @oJ <| XB @wv <| XB @rD <| XB @qj <| XB @ql <| XB @jC <| XB @jD <| XB @jx <| XB @Vy <| XB @jy <| XB @R3 <| XB @pT <| XB @vo <| XB @jv <| XB @NY <| XB @NZ <| XB @SF <| XB @dn <| XB @dk <| XB @Mp <| XB @jw <| XB @dj <| XB @dp <| XB @pU <| XB @pV <| XB @Vx <| XB @oX <| XB @iB <| XB @V6 <| XB @iD <| XB @dm <| XB @dl <| XB @mA <| XB @fF <| XB @SE <| XB @SD <| XB @xw <| XB @xv <| XB @BA <| XB @Vb <| XB @Kz <| XB @KA <| XB @Vd <| XB @Mc <| XB @Uq <| XB @Up <| XB @II <| XB @Sl <| XB @V8 <| XB @IF <| XB @PM <| XB @Sj <| XB @Sk <| XB @I3 <| XB @PJ <| XB @DK <| XB @iH <| XB @Si <| XB @p8 <| XB @p9 <| XB @lc <| XB @ld <| XB @iY <| XB @Vj <| XB @Sp <| XB @Sq <| XB @cJ <| XB @cI <| XB @cK <| XB @oZ <| XB @iK <| XB @oW <| XB @iy <| XB @wH <| XB @wI <| XB @rt <| XB @ru <| XB @ib <| XB @bu <| XB @uP <| XB @p7 <| XB @iM <| XB @iO <| XB @Yg <| XB @ig <| XB @WV <| XB @I1 <| XB @ie <| XB @PF <| XB @xe <| XB @xd <| XB @xH <| XB @xG <| XB @oV <| XB @oU <| XB @ia <| XB @Sc <| XB @Of <| XB @Og <| XB @M3 <| XB @M6 <| XB @Fo <| XB @dY <| XB @OJ <| XB @wg <| @s8
end
end Go.Ab
namespace Go.Ab
open Go Go.RowKit
noncomputable section
theorem Marks.TBV {c0 c:Ctx}{l:Nat}{r:Loop}(hk:Kept c l (.loop r)) (o:Obj):∀ {ds:List Deferred},Marks c0 c ds→Marks c0 ⟨c.w.putObj l o,c.S,c.γ,c.H⟩ ds
 | [],_=>trivial
 |_ :: _,⟨⟨D,e,h1,h2,h3⟩,h⟩=>⟨⟨D,e,h1,h2.TCQ (fun e=>by
   have:=h2.1;rw[e,hk.1]at this;cases this) (Jt c.w l o),h3⟩,h.TBV hk o⟩
theorem SV {m:Nat}{c0 c:Ctx}{l:Nat}{o:Obj}(hx:TAd m c0 c)(hl:Ar c0 l):TAd m c0 ⟨c.w.putObj l o,c.S,c.γ,c.H⟩ :=
 ⟨fun id o hid ho=>hx.hle id o hid ho,hx.TAf,hx.TA6,hx.TAy,fun b hb hn=>(Jt c.w l o b (fun e=>hn (e▸hl))).trans (hx.same b hb hn),by rw[ZA3];exact hx.size,hx.os,hx.tape,hx.output⟩
theorem MV {c:Ctx}{l:Nat}{o o':Obj}(h:Kept c l o):Kept ⟨c.w.putObj l o',c.S,c.γ,c.H⟩ l o':=⟨ZBC h.lt,h.2.1,h.2.2⟩
theorem Pn {X:Env}{l:Nat}{r:Loop}{k:List Item}{s:AS}(hX:X.rnd=some (l,r)) (ht:X.tok=[]) (hr:r.state=.ready) (h:Run { X with rnd:=some (l,{ r with state:=.busy }) } k s):Run X (.beginRound :: k) s:=by
 intro hm ho hrn c0 c a ds hst hp b cs hf hk hb;have hkp:=hp.rnd l r hX;have hb':b.roundOf=some l:=by rw[hb,hX];rfl
 obtain⟨v,fr,r',c',h1,h2,h3,h4,h5,h6,h7⟩:=h hm (fun i hi=>ho i (List.mem_cons_of_mem _ hi)) (fun _=>hrn (by rw[hX];rfl)) c0 ⟨c.w.putObj l (.loop { r with state:=.busy }),c.S,c.γ,c.H⟩ a ds (hst.TCQ hkp.1)
  ⟨SV hp.ext hkp.2,fun p hp'=>absurd hp' (by show p∉X.tok;rw[ht];exact V_),fun l' r' e=>by cases e;exact⟨MV hkp.1,hkp.2⟩,hp.marks.TBV hkp.1 _,fun _ _ _ _ e=>by cases e⟩ b cs hf hk hb'
 refine⟨v,fr,r',c',.head (stepR_beginRound hb' (run_beginRound hkp.1.1 hr)) h1,?_,h3,h4,by rw[DH hX];rw[DH (X:={ X with rnd:=some (l,{ r with state:=.busy }) }) rfl]at h5;exact h5,?_,h7⟩
 ·unfold ov at h2 ⊢
  rw[hX];exact h2
 ·intro l' r'' e
  rw[hX]at e;cases e;obtain⟨st,pe,hq⟩:=h6 l _ rfl;exact⟨st,pe,hq⟩
def ak (s:AS):List Nat→List AV→AS
 |p :: ps,v :: vs=>ak (s.put p v) ps vs
 |_,_=>s
def SQ (P:Program)(fn:Func)(str hcs:List Nat)(m l:Nat)(r:Loop)(H':List AO):Env:=⟨P,fn,888888 :: str,hcs,m,some (l,r),[],none,fun _ H=>H.take m=H'⟩
def lH:Loop:={ state:=.ready,pending:=none,fn:=0,tmps:=#[],params:=#[],assign:=.skip,body:=.skip,defers:=0 }
def uk (c:Code):Loop:={ lH with pending:=some c }
def zS (q:Option Code):Option (Nat×Loop×Loop):=match q with |none=>none |some c=>some (0,lH,uk c)
def lk (q:Option Code):Prop:=∀c,q=some c→c=.ret∨∃id,c=.exit id
def Re (P:Program)(fn:Func)(str hcs:List Nat)(m l:Nat)(r:Loop)(H':List AO)(q:Option Code):Env:=⟨P,fn,888888 :: str,hcs,m,some (l,r),[],zS q,fun _ H=>H.take m=H'⟩
def KD (r:Loop):Option Code→Loop
 |none=>r
 |some c=>{ r with state:=.done,pending:=some c }
theorem BQ {w:World}{l:Nat}{o:Obj}(h:w.heap[l]?=some o):w.putObj l o=w:=by
 unfold World.putObj;have:w.heap.setIfInBounds l o=w.heap:=by
  apply Array.ext_getElem?;intro i;rw[Array.getElem?_setIfInBounds]
  split
  ·rename_i e;subst e
   split
   ·exact h.symm
   ·rename_i hn;rw[Array.getElem?_eq_none (by omega)]
  ·rfl
 rw[this]
theorem CD (w:World)(l:Nat)(o o':Obj):(w.putObj l o).putObj l o'=w.putObj l o':=by
 unfold World.putObj;simp
def YC (P:Program)(t:Tok)(q:Option Code)(args:List AV)(H H':List AO):Prop :=
 ∀ (c:Ctx) (vs:Array Value),c.H=H→I' c→TAV c t→TAH c vs args→∃f tmps assign body,(Instr.yield t.l vs).run P c.w=.ok (.round t.l f tmps assign body) c.w ∧
  RoundIn ZB3 0 P t.l f tmps assign body c.w fun e w'=>∃S' γ',e=.returned (.bool q.isNone)∧w'.heap[t.l]?=some (.loop (KD t.r q))∧I' ⟨w'.putObj t.l (.loop t.r),S',γ',H'⟩∧Ext c ⟨w'.putObj t.l (.loop t.r),S',γ',H'⟩
theorem YC.call {P:Program}{t:Tok}{args:List AV}{H H':List AO}(h:YC P t none args H H'):TBf P t args H (.bool true) H':=by
 intro c vs h1 h2 h3 h4;obtain⟨f,tmps,assign,body,k1,k2⟩:=h c vs h1 h2 h3 h4;refine⟨f,tmps,assign,body,k1,k2.mono ?_⟩;rintro e w' ⟨S',γ',rfl,q1,q2,q3⟩;rw[show KD t.r none=t.r from rfl]at q1;rw[BQ q1]at q2 q3;exact⟨.bool true,S',γ',rfl,.bool true,q2,q3⟩
structure TBs (P:Program)(fn:Func)(ps:Array Nat)(assign body:Code)(s:AS)(t:Tok):Prop where
 st:t.r.state=.ready
 pe:t.r.pending=none
 fc:P.funcs[t.r.fn]?=some fn
 ps:t.r.params=ps
 as:t.r.assign=assign
 bd:t.r.body=body
 at':∃a:Act,t.r.tmps=a.tmps∧St fn.ntmps t.ce a s
 ch:t.ce.H=s.h
theorem an {N:Nat}{c:Ctx}:∀ (ps:List Nat) (vs:List Value) (es:List AV) (a:Act) (s:AS),St N c a s→ps.length=es.length→vs.length=es.length→(∀j,j<es.length→Rep c (vs.getD j undef) (es.getD j .any))→(∀p∈ps,p<N) →
  St N c { tmps:=(ps.zip vs).foldl (fun t q=>t.setIfInBounds q.1 q.2) a.tmps,defers:=a.defers } (ak s ps es)
 | [],vs,es,a,s,hst,_,_,_,_=>by simp only[List.zip_nil_left,List.foldl_nil];exact hst
 |p :: ps,[],es,a,s,hst,h1,h2,_,_=>by simp at h1 h2;omega
 |p :: ps,v :: vs,[],a,s,hst,h1,h2,_,_=>by simp at h1
 |p :: ps,v :: vs,e :: es,a,s,hst,h1,h2,h3,h4=>by
  have hp:=hst.E' (Ext.refl c) hst.H_ (d:=some p) (x:=v) (v:=e) (by simpa using h3 0 (by simp)) (fun i hi=>by cases hi;exact h4 p (by simp));have hs:({ s with h:=c.H }:AS)=s:=by rw[hst.heap]
  rw[hs]at hp;exact an ps vs es (a.put (some p) v) (s.put p e) hp (by simpa using h1) (by simpa using h2) (fun j hj=>by simpa using h3 (j+1) (by simpa using hj)) (fun q hq=>h4 q (by simp[hq]))
theorem IC (ps:Array Nat)(vs:Array Value)(t:Array Value):(ps.zip vs).foldl (fun t (q:Nat×Value)=>t.setIfInBounds q.1 q.2) t=(ps.toList.zip vs.toList).foldl (fun t q=>t.setIfInBounds q.1 q.2) t:=by
 rw[←Array.foldl_toList,Array.toList_zip]
theorem NI {P:Program}(q:Option Code)(hq:lk q){fn:Func}{ps:Array Nat}{assign body:Code}{s:AS}{t:Tok}{str hcs:List Nat}{elt:List AV}{H H':List AO}(hl:TBs P fn ps assign body s t)(hm:P.follows .mixedOrders=true)
  (hok:QO fn.ntmps (888888 :: str) hcs assign=true) (TD4:QO fn.ntmps (888888 :: str) hcs body=true) (hps:elt.length=ps.size) (hpN:∀p∈ps.toList,p<fn.ntmps) (hO:∀o∈H',Q0 H.length o)
  (I_:∀l r,r.state=.ready→Run (Re P fn str hcs H.length l r H' q) [.code assign,.beginRound,.code body] (ak { s with h:=H } ps.toList elt)):YC P t q elt H H':=by
 rintro c vs rfl hr ⟨hkc,J'⟩ hv;obtain⟨a,hat,TD5⟩:=hl.at';have hsz:vs.size=t.r.params.size:=by rw[hv.1,hps,hl.ps]
 refine⟨t.r.fn,_,t.r.assign,t.r.body,run_yield hkc.1 hsz,trivial,fun cf cs _=>?_⟩;have TBZ:St fn.ntmps c { tmps:=a.tmps,defers:=[] } { s with h:=c.H } :=
  ⟨TD5.size,rfl,fun i=>J'.rep TD5.H_ (TD5.TAQ i),rfl,hr⟩
 have TCu:=an ps.toList vs.toList elt _ _ TBZ (by simp[hps]) (by simp[hv.1]) (fun j hj=>by
  have:=hv.2 j hj
  simpa [s_,K']using this) hpN
 rw[←IC]at TCu;obtain⟨c0,hc0⟩:∃c0:Ctx,c0=⟨c.w,c.S,fun id=>if id=c.H.length then some (t.l,0)else c.γ id,c.H ++ [.map .i64 fun _=>none]⟩:=⟨_,rfl⟩
 have TAP:Ar c0 t.l:=⟨c.H.length,.map .i64 fun _=>none,0,by rw[hc0];simp,rfl,by rw[hc0];simp⟩
 have TC2:∀b,Ar c0 b→Ar c b∨b=t.l:=by
  rintro b ⟨id,o,sz,ho,h1,h2⟩;rw[hc0]at ho h2;simp only at ho h2;by_cases hid:id=c.H.length
  ·rw[N_ hid]at h2;cases h2;exact .inr rfl
  ·rw[M_ hid]at h2
   have hlt:id<c.H.length:=by
    have:=(S_.1 ho).1;simp at this;omega
   rw[T_ hlt]at ho;exact .inl ⟨id,o,sz,ho,h1,h2⟩
 have TC3:∀ (id:Nat),id<c.H.length→c0.H[id]?=c.H[id]?∧c0.γ id=c.γ id:=fun id hid=>by
  rw[hc0];exact⟨T_ hid,by show(if id=c.H.length then _ else _)=_;rw[M_ (by omega)]⟩
 have hx0:TAd c.H.length c0 c:=by
  refine⟨?_,fun b hb=>by rw[hc0]at hb;exact hb,fun b hb=>.inl (by rw[hc0];exact hb),fun b hb=>.inr ?_,fun b _ _=>by rw[hc0],by rw[hc0];exact N' _,by rw[hc0],by rw[hc0],by rw[hc0]⟩
  ·intro id o hid ho
   obtain⟨e1,e2⟩:=TC3 id hid;rw[e1]at ho;have:=HLe.refl c id o ho;cases o <;> (first |trivial |exact this | (dsimp only at this ⊢;rw[e2];exact this))
  ·obtain⟨id,o,sz,ho,h1,h2⟩:=hb
   have hlt:=(S_.1 ho).1;obtain⟨e1,e2⟩:=TC3 id hlt;exact⟨id,o,sz,e1.trans ho,h1,e2.trans h2⟩
 let b:Frame:={ (default:Frame)with fn:=t.r.fn,kind:=.normal,roundOf:=some t.l }
 have hb0:∀tm:Array Value,Frame.round t.l t.r.fn tm t.r.assign t.r.body .normal=b.atR { ({ tmps:=tm,defers:=[] }:Act)with defers:=[] } [.code assign,.beginRound,.code body]:=fun tm=>by
  simp[Frame.round,Frame.atR,b,hl.as,hl.bd]
 obtain⟨v,fr,r',c',h1,h2,h3,h4,h5,h6,h7⟩:=I_ t.l t.r hl.st hm (by
   intro i hi;simp only[b_,V_,or_false]at hi;rcases hi with rfl |rfl |rfl
   ·exact hok
   ·rfl
   ·exact TD4) (fun _=>by simp[Re]) c0 c _ [] TCu ⟨hx0,fun p hp=>absurd hp V_,fun l r e=>by cases e;exact⟨hkc,TAP⟩,trivial,fun _ _ _ _ e=>by cases e⟩ b (cf :: cs) hl.fc rfl rfl
 rw[DH (q:=(t.l,t.r)) rfl]at h5;obtain⟨st,pe,hke⟩:=h6 t.l t.r rfl;have TFS:({ t.r with state:=.ready,pending:=none }:Loop)=t.r:=by
  conv=>lhs;rw[←hl.st,←hl.pe]
 have TCp:step P (lone fr (cf :: cs) c'.w)=.next (lone (cf.finish (.bool q.isNone)) cs (c'.w.putObj t.l (.loop (KD t.r q)))):=by
  cases q with
  |none =>
   obtain⟨a',rfl⟩:∃a':Act,fr=b.atR { a' with defers:=[] } []:=h2;have TAo:=run_endRound (P:=P) none hke.1;simp only[Option.isNone_none,if_true]at TAo;rw[show({ ({ t.r with state:=st,pending:=pe }:Loop)with state:=.ready,pending:=none }:Loop)={ t.r with state:=.ready,pending:=none } from rfl,TFS]at TAo;exact stepR_round_end (P:=P) (b:=b) (a:={ a' with defers:=[] }) (cs:=cs) (c:=cf) rfl rfl TAo
  |some c0 =>
   obtain⟨a',k',rfl,hx⟩:∃ (a':Act) (k':List Item),fr=b.atR { a' with defers:=[] } (.code c0 :: k')∧∀id,some c0=some (.exit id)→exitTo id k'=none:=h2;have TAo:=run_endRound (P:=P) (some c0) hke.1;rcases hq c0 rfl with rfl | ⟨id,rfl⟩
   ·exact stepR_round_ret (P:=P) (b:=b) (a:={ a' with defers:=[] }) (k:=k') (cs:=cs) (c:=cf) rfl rfl TAo
   ·exact stepR_round_exit (P:=P) (b:=b) (a:={ a' with defers:=[] }) (k:=k') (cs:=cs) (c:=cf) rfl rfl (hx id rfl) TAo
 obtain⟨w4,hw4⟩:∃w4,w4=c'.w.putObj t.l (.loop t.r):=⟨_,rfl⟩
 have TC4:∀b,b≠t.l→w4.heap[b]?=c'.w.heap[b]?:=fun b hb=>by rw[hw4];exact Jt _ _ _ b hb
 have hto:c'.H.take c.H.length=H':=h7;have TEf:∀ (id:Nat),id<c.H.length→H'[id]?=c'.H[id]?:=fun id hid=>by rw[←hto,ZAe,N_ hid]
 have TDO:∀ (id:Nat) (o:AO),H'[id]?=some o→c'.H[id]?=some o∧id<c.H.length:=fun id o ho=>by
  rw[←hto,ZAe]at ho
  split at ho
  ·exact⟨ho,by assumption⟩
  ·cases ho
 have TEg:I' ⟨w4,c'.S,c'.γ,H'⟩:=by
  have h8:=FC h4 c.H.length (by rw[hto];exact hO);rw[hto]at h8;exact FB (c:=⟨c'.w,c'.S,c'.γ,H'⟩) (l:=t.l) h8 hke.2.1 (fun⟨id,o,sz,ho,q1,q2⟩=>hke.2.2 ⟨id,o,sz,(TDO id o ho).1,q1,q2⟩) (by rw[hw4];simp) (fun b hb _=>TC4 b hb)
 have hw5:(c'.w.putObj t.l (.loop (KD t.r q))).putObj t.l (.loop t.r)=w4:=by rw[hw4,CD]
 refine⟨.returned (.bool q.isNone),c'.w.putObj t.l (.loop (KD t.r q)),⟨c'.S,c'.γ,rfl,ZBC hke.lt,by rw[hw5];exact TEg,?_⟩,?_⟩;rw[hw5]
 ·refine⟨?_,fun b hb=>h5.TAf b (by rw[hc0];exact hb),fun b hb=>?_,fun b hb=>?_,fun b hb hn=>?_,?_,?_,?_,?_⟩
  ·intro id o ho
   have hid:=(S_.1 ho).1;obtain⟨e1,e2⟩:=TC3 id hid;have hh:=h5.hle id o hid (e1.trans ho);have e3:=TEf id hid;have e4:inf H' id=inf c'.H id:=by unfold inf;rw[e3]
   cases o <;> simp only at hh ⊢ <;> (try rw[e2]at hh) <;> (try rw[e3]) <;> (try rw[e4]) <;> exact hh
  ·rcases h5.TA6 b hb with q |q |q
   ·exact .inl (by rw[hc0]at q;exact q)
   ·exact .inr (.inl (by rw[hc0]at q;exact q))
   ·rcases TC2 b q with q |rfl
    ·exact .inr (.inr q)
    ·exact absurd hb hke.2.1
  ·have hb':Ar c' b:=by obtain⟨id,o,sz,ho,q1,q2⟩:=hb;exact⟨id,o,sz,(TDO id o ho).1,q1,q2⟩
   rcases h5.TAy b hb' with q |q
   ·exact .inl (by rw[hc0]at q;exact q)
   ·rcases TC2 b q with q |rfl
    ·exact .inr q
    ·exact absurd hb' hke.2.2
  ·by_cases he:b=t.l
   ·subst he
    show w4.heap[t.l]?=_;rw[hkc.1,hw4];exact ZBC hke.lt
   ·show w4.heap[b]?=_
    rw[TC4 b he,h5.same b (by rw[hc0];exact hb) (fun q=>(TC2 b q).elim hn he),hc0]
  ·have:=h5.size
   rw[hc0]at this;show _≤w4.heap.size;rw[hw4,ZA3];exact this
  ·have:=h5.os;rw[hc0]at this;rw[hw4];exact this
  ·have:=h5.tape;rw[hc0]at this;rw[hw4];exact this
  ·have:=h5.output;rw[hc0]at this;rw[hw4];exact this
 ·show StepsIn _ _ _ _
  refine stepsIn_wide.2 ?_;have e5:=hb0 ((t.r.params.zip vs).foldl (fun tmps (q:Nat×Value)=>tmps.setIfInBounds q.1 q.2) t.r.tmps);rw[e5];rw[hl.ps,hat];exact ZDk h1 (.one TCp)
theorem UO {P:Program}{fn:Func}{ps:Array Nat}{assign body:Code}{s:AS}{t:Tok}{str hcs:List Nat}{elt:List AV}{H H':List AO}(hl:TBs P fn ps assign body s t)(hm:P.follows .mixedOrders=true)
  (hok:QO fn.ntmps (888888 :: str) hcs assign=true) (TD4:QO fn.ntmps (888888 :: str) hcs body=true) (hps:elt.length=ps.size) (hpN:∀p∈ps.toList,p<fn.ntmps) (hO:∀o∈H',Q0 H.length o)
  (I_:∀l r,r.state=.ready→Run (SQ P fn str hcs H.length l r H') [.code assign,.beginRound,.code body] (ak { s with h:=H } ps.toList elt)):TBf P t elt H (.bool true) H' :=
 (NI none (fun c e=>by cases e) hl hm hok TD4 hps hpN hO I_).call
theorem TAV.cut {c:Ctx}{t:Tok}{H1 rest:List AO}(h:TAV c t)(hH:c.H=H1 ++ rest)(hm:t.ce.H.length≤H1.length):TAV ⟨c.w,c.S,c.γ,H1⟩ t:=by
 have TCb:∀b,Ar ⟨c.w,c.S,c.γ,H1⟩ b→Ar c b:=fun b ⟨id,o,sz,ho,TAP,hg⟩=>⟨id,o,sz,by
  rw[hH,T_ (S_.1 ho).1];exact ho,TAP,hg⟩
 refine⟨⟨h.1.1,h.1.2.1,fun q=>h.1.2.2 (TCb _ q)⟩,⟨fun id o ho=>?_,h.2.TAf,h.2.TA6,fun b q=>h.2.TAy b (TCb b q),h.2.same,h.2.size,h.2.os,h.2.tape,h.2.output⟩⟩;have hlt:=(S_.1 ho).1;have e3:c.H[id]?=H1[id]?:=by rw[hH,T_ (by omega)]
 have e4:inf c.H id=inf H1 id:=by unfold inf;rw[e3]
 have hh:=h.2.hle id o ho;cases o <;> simp only at hh ⊢ <;> (try rw[e3]at hh) <;> (try rw[e4]at hh) <;> exact hh
theorem TBf.frame {P:Program}{t:Tok}{args:List AV}{H1 H1':List AO}{v:AV}(h:TBf P t args H1 v H1')(hlen:H1'.length=H1.length)(hce:t.ce.H.length≤H1.length)(hb:∀ a∈args,Jl H1.length a)(hO:∀ o∈H1,Q0 H1.length o)(rest:List AO) :
  TBf P t args (H1 ++ rest) v (H1' ++ rest):=by
 intro c vs hH hr ht hv;have TA5:c.H.take H1.length=H1:=by rw[hH];simp
 have hr1:I' ⟨c.w,c.S,c.γ,H1⟩:=by
  have:=FC hr H1.length (by rw[TA5];exact hO);rwa[TA5]at this
 have hv1:TAH ⟨c.w,c.S,c.γ,H1⟩ vs args:=⟨hv.1,fun j hj=>by
  have TAW:args.getD j .any∈args:=by rw[K',V' hj];exact ZAR _
  have:=hb _ TAW c _ (hv.2 j hj);rwa[TA5]at this⟩
 obtain⟨f,tmps,assign,body,h1,h2⟩:=h ⟨c.w,c.S,c.γ,H1⟩ vs rfl hr1 (ht.cut hH hce) hv1;refine⟨f,tmps,assign,body,h1,h2.mono ?_⟩;rintro e w' ⟨x,S',γ',rfl,hx,hr',J'⟩;obtain⟨γ2,k1,k2,k3⟩:=Gj hH hr hlen hx hr' J';exact⟨x,S',γ2,rfl,k1,k2,k3⟩
theorem Vs {X:Env}{M:Md}{o:Oper}{t:Tok}{l:Nat}{args as':List AV}{K:AS→Prop}{s:AS}{r:AV}{H1 H1' rest:List AO}(hb:M.C'=true)(hl:t.l=l)(TAW:t∈X.tok)(h:TBf X.P t as' H1 r H1')(hs:s.h=H1 ++ rest)(hlen:H1'.length=H1.length)(hce:t.ce.H.length≤H1.length)
  (TCc:∀a∈as',Jl H1.length a) (hO:∀o∈H1,Q0 H1.length o) (TCS:∀o∈H1,o≠.D_) (TFT:∀o∈H1',o≠.D_) (TBq:K5 H1 H1') (ha:TAF args as')
  (hK:K (({ s with h:=H1' ++ rest }:AS).E' o.dst r)):GE X M o (.yld l) args K s:=by
 subst hl;have TEh:s.h.drop H1.length=rest:=by rw[hs];simp
 have hat:∀id:Nat,s.h[id]?=some .D_→¬id<H1.length:=fun id hid hlt=>by
  rw[hs,T_ hlt]at hid;exact TCS _ (ZAK hid) rfl
 have TD6:∀h2,gY s.h h2→h2=H1 ++ h2.drop H1.length:=by
  intro h2 ho;have:h2.take H1.length=H1:=by
   apply ZAp;intro i;rw[ZAe];by_cases hi:i<H1.length
   ·rw[N_ hi,ho i (by rw[hs,T_ hi];intro e;exact TCS _ (ZAK e) rfl),hs,T_ hi]
   ·rw[M_ hi,k_ (by omega)]
  conv=>lhs;rw[←List.take_append_drop H1.length h2,this]
 refine⟨r,H1' ++ rest,⟨.inr t.l,args,rfl,.inr (.inr ⟨hb,as',ha,fun h2=>H1' ++ h2.drop H1.length,fun h2 ho=>?_,by show H1' ++ s.h.drop H1.length=_;rw[TEh],?_,?_,?_⟩)⟩,hK⟩
 ·have:=h.frame hlen hce TCc hO (h2.drop H1.length)
  rw[←TD6 h2 ho]at this;exact⟨t,TAW,rfl,this⟩
 ·intro id v n f
  rw[hs];by_cases hi:id<H1.length
  ·rw[T_ hi,T_ (by omega)];exact TBq id v n f
  ·rw[g_ (by omega),g_ (by omega),hlen]
 ·intro h2 id ob ho hid
  have hge:=hat id hid;show H1' ++ (h2.set id ob).drop H1.length=(H1' ++ h2.drop H1.length).set id ob;rw[ZAs _ _ (by omega),hlen,List.drop_set,M_ (by omega)]
 ·intro id hid
  have hge:=hat id hid;rw[hs]at hid;rw[g_ (by omega)]at hid ⊢;rw[hlen];exact hid
def TBb (P:Program)(t:Tok)(q:Option Code)(f:FuncId)(args:List AV)(H H':List AO):Prop :=
 Cs P f∧∀ (c:Ctx) (vs:Array Value),c.H=H→I' c→TAV c t→TAH c vs args→Calls P f vs c.w fun e w'=>∃v S' γ',e=.returned v∧w'.heap[t.l]?=some (.loop (KD t.r q))∧I' ⟨w'.putObj t.l (.loop t.r),S',γ',H'⟩∧Ext c ⟨w'.putObj t.l (.loop t.r),S',γ',H'⟩
def TBt (P:Program)(t:Tok)(f:FuncId)(args:List AV)(H H':List AO):Prop:=TBb P t none f args H H'
def VD (P:Program)(fn:Func)(str hcs:List Nat)(t:Tok)(m:Nat)(H':List AO):Env:=⟨P,fn,str,hcs,m,none,[t],none,fun _ H=>H.take m=H'⟩
def jW (P:Program)(fn:Func)(str hcs:List Nat)(t:Tok)(q:Code)(m:Nat)(H':List AO):Env:=⟨P,fn,str,hcs,m,none,[t],some (t.l,t.r,KD t.r (some q)),fun _ H=>H.take m=H'⟩
def yB (P:Program)(fn:Func)(str hcs:List Nat)(m:Nat)(H':List AO):Env:=⟨P,fn,str,hcs,m,none,[],none,fun _ H=>H.take m=H'⟩
theorem Yq {m:Nat}{w':World}{S':Nat→Prop}{γ':Nat→Option (Nat×Nat)} {H'' H':List AO} {c:Ctx} (hm:m=c.H.length) (hO:∀o∈H',Q0 m o) (h2:I' ⟨w',S',γ',H''⟩) (h3:TAd m c ⟨w',S',γ',H''⟩) (h4:H''.take m=H') :
  ∃S2 γ2,I' ⟨w',S2,γ2,H'⟩∧Ext c ⟨w',S2,γ2,H'⟩:=by
 subst hm;have hst:St 0 ⟨w',S',γ',H''⟩ { tmps:=#[],defers:=[] } ⟨0,[],[],[],H''⟩:=⟨rfl,rfl,fun i=>.any _,rfl,h2⟩
 obtain⟨c',hw,hx,TAu⟩:=XG (b:=c.H.length) (m:=c.H.length) (s:=⟨0,[],[],[],H''⟩) (s':=⟨0,[],[],[],H''.take c.H.length⟩) (N' _) rfl trivial trivial rfl (by simp) (by simp) (by rw[←h4]at hO;exact hO) _ _ _ hst;have hH:=TAu.heap;have H_:=TAu.H_;obtain⟨w2,S2,γ2,H2⟩:=c';cases hw;cases hH;rw[←h4];exact⟨S2,γ2,H_,(h3.trans hx).TCI (N' _)⟩
theorem TBt.intro {P:Program}{f:FuncId}{fn:Func}{body:Code}(he:Cs P f)(hf:P.funcs[f]?=some fn)(hb:fn.body=some body)(hm:P.follows .mixedOrders=true){args:List AV}{t:Tok}{H H':List AO}
  (n0:Nat) (hid str hcs:List Nat) (hok:QO fn.ntmps str hcs body=true) (hlen:args.length≤fn.ntmps) (hce:t.ce.H.length≤H.length) (hO:∀o∈H',Q0 H.length o)
  (h:Run (VD P fn str hcs t H.length H') [.code body] (AS.start n0 hid args H)):TBt P t f args H H':=by
 refine⟨he,?_⟩;rintro c vs rfl hrc htk hv;refine C8 (X:=VD P fn str hcs t c.H.length H') hf hb hm hok rfl hrc hv hlen h (fun p hp=>?_) ?_
 ·obtain rfl:p=t:=by simpa [VD]using hp
  exact⟨htk,hce⟩
 rintro v r' ⟨w',S',γ',H''⟩ h1 h2 h3 h4;obtain⟨S2,γ2,k1,k2⟩:=Yq rfl hO h2 h3 h4;have hq:=(htk.1.ext (k2.toB 0)).1;refine⟨v,S2,γ2,rfl,hq,?_,?_⟩ <;> rw[BQ hq]
 ·exact k1
 ·exact k2
theorem TBb.intro {P:Program}{f:FuncId}{fn:Func}{body:Code}(he:Cs P f)(hf:P.funcs[f]?=some fn)(hb:fn.body=some body)(hm:P.follows .mixedOrders=true){args:List AV}{t:Tok}{H H':List AO}
  (q:Code) (n0:Nat) (hid str hcs:List Nat) (hok:QO fn.ntmps str hcs body=true) (hlen:args.length≤fn.ntmps) (hce:t.ce.H.length≤H.length) (hO:∀o∈H',Q0 H.length o)
  (h:Run (jW P fn str hcs t q H.length H') [.code body] (AS.start n0 hid args H)):TBb P t (some q) f args H H':=by
 refine⟨he,?_⟩;rintro c vs rfl hrc htk hv;refine FZ (X:=jW P fn str hcs t q c.H.length H') hf hb hm hok rfl hrc hv hlen h (fun p hp=>?_) (fun l r r1 e=>by cases e;exact htk.1) ?_
 ·obtain rfl:p=t:=by simpa [jW]using hp
  exact⟨htk,hce⟩
 rintro v r' ⟨w',S',γ',H''⟩ h1 h2 ⟨h3,h3'⟩ h4;obtain⟨S2,γ2,k1,k2⟩:=Yq rfl hO (FB (c:=⟨w',S',γ',H''⟩) (l:=t.l) h2 h3.2.1 h3.2.2 (by simp) fun b hb _=>Jt w' t.l _ b hb) h3' h4;exact⟨v,S2,γ2,rfl,h3.1,k1,k2⟩
theorem Ih {m:Nat}{c c':Ctx}{l:Nat}{o:Obj}(h:TAd m c c')(hl:l<c.w.heap.size):TAd m ⟨c.w.putObj l o,c.S,c.γ,c.H⟩ ⟨c'.w.putObj l o,c'.S,c'.γ,c'.H⟩:=by
 have hs:=h.size;refine⟨h.hle,h.TAf,fun b hb=>?_,fun b hb=>?_,fun b hb hn=>?_,?_,h.os,h.tape,h.output⟩
 ·rw[ZA3];exact h.TA6 b hb
 ·rw[ZA3];exact h.TAy b hb
 ·rw[ZA3]at hb
  by_cases e:b=l
  ·subst e
   rw[ZBC hl,ZBC (by omega)]
  ·rw[Jt _ _ _ b e,Jt _ _ _ b e];exact h.same b hb hn
 ·rw[ZA3,ZA3];exact hs
theorem YC.frame {P:Program}{t:Tok}{q:Option Code}{args:List AV}{H1 H1':List AO}(h:YC P t q args H1 H1')(hlen:H1'.length=H1.length)(hce:t.ce.H.length≤H1.length)(hb:∀ a∈args,Jl H1.length a)(hO:∀ o∈H1,Q0 H1.length o)(rest:List AO) :
  YC P t q args (H1 ++ rest) (H1' ++ rest):=by
 intro c vs hH hr ht hv;have TA5:c.H.take H1.length=H1:=by rw[hH];simp
 have hr1:I' ⟨c.w,c.S,c.γ,H1⟩:=by
  have:=FC hr H1.length (by rw[TA5];exact hO);rwa[TA5]at this
 have hv1:TAH ⟨c.w,c.S,c.γ,H1⟩ vs args:=⟨hv.1,fun j hj=>by
  have TAW:args.getD j .any∈args:=by rw[K',V' hj];exact ZAR _
  have:=hb _ TAW c _ (hv.2 j hj);rwa[TA5]at this⟩
 obtain⟨f,tmps,assign,body,h1,h2⟩:=h ⟨c.w,c.S,c.γ,H1⟩ vs rfl hr1 (ht.cut hH hce) hv1;refine⟨f,tmps,assign,body,h1,h2.mono ?_⟩;rintro e w' ⟨S',γ',rfl,hq,hr',J'⟩;obtain⟨γ2,k1,k2,k3⟩:=Gj hH hr hlen (x:=.bool q.isNone) (v:=.bool q.isNone) (.bool _) hr' J';exact⟨S',γ2,rfl,hq,k2,k3⟩
theorem TAc.app {P:Program}{tok:List Tok}{strict:Nat→Bool}{C':Bool}{nid:Nat→Option Nat}{all:Array Oper}{N:Nat}{ro:Option Nat}{ds:List Deferred}(hN:∀ o∈all.toList,∀ i,o.dst=some i→i<N){Q:Exit→Act→World→Prop}{l2:List Nat}:∀ (l:List Nat) {s s':AS} {c:Ctx} {a:Act},St N c a s→(∀p∈tok,TAV c p) →
  TAc P tok strict C' nid all l s s'→(∀a' c',St N c' a' s'→Ext c c'→wpOpsIn (Ac ro) 0 P all Q l2 { a' with defers:=ds } c'.w)→wpOpsIn (Ac ro) 0 P all Q (l ++ l2) { a with defers:=ds } c.w
 | [],s,s',c,a,hst,TAk,h,hQ=>by
  cases h;exact hQ a c hst (Ext.refl c)
 |i :: l,s,s',c,a,hst,TAk,h,hQ=>by
  obtain⟨s1,h1,h2⟩:=h;rw[e_,wpOpsIn_cons];refine h1.sound hst TAk hN fun a' c' TAu hx=>?_
  exact TAc.app hN l TAu (fun p hp=>(TAk p hp).ext hx) h2 fun a'' c'' TCN hx'=>hQ a'' c'' TCN (hx.trans hx')
theorem Marks.size {c0 c1 c:Ctx}(h:c1.w.heap.size=c0.w.heap.size):∀ {ds:List Deferred},Marks c0 c ds→Marks c1 c ds
 | [],_=>trivial
 |_ :: _,⟨⟨D,e,h1,h2,h3⟩,k⟩=>⟨⟨D,e,by rw[h];exact h1,h2,h3⟩,k.size h⟩
def xV (P:Program)(t:Tok)(q:Code)(all:Array Oper)(o:Oper)(s s1:AS):Prop :=
 TAw all s o=some true∧∃f args ts as' H',o.op=.call { callee:=.value f,args:=args,argTypes:=ts }∧s.ev f=.yld t.l∧TAF (args.toList.map s.ev) as'∧YC P t (some q) as' s.h H'∧s1=({ s with h:=H' }:AS).E' o.dst (.bool false)
theorem rJ {X:Env}{t:Tok}{q:Code}{id:Nat}{ops:Array Oper}{k:List Item}{s s1 s2 s3:AS}{l1 l2:List Nat}{j:Nat}{o:Oper}(hX:X.out=some (t.l,t.r,KD t.r (some q))) (hrn:X.rnd=none) (htk:t∈X.tok) (hl:List.range ops.size=l1 ++ j :: l2) (hj:ops[j]?=some o)
  (h1:TAc X.P X.tok (fun _=>false) true (fun _=>none) ops l1 s.clr s1) (h2:xV X.P t q ops o s1 s2) (h3:TAc X.P [] (fun _=>false) true (fun _=>none) ops l2 s2 s3)
  (h:Run ⟨X.P,X.fn,X.str,X.hcs,X.base,none,[],none,X.Q⟩ k s3):Run X (.code (.region id ops false) :: k) s:=by
 intro hm ho TAq c0 c a ds hst hp b cs hf hk hb;have hok:=(Qz.1 ho).1;simp only[ZJ,QO,x_]at hok;have hN:=Gq hok.1;have hN':∀i,o.dst=some i→i<X.fn.ntmps:=hN o (by simpa using Array.mem_of_getElem? hj);have TAk:∀p∈X.tok,TAV c p:=fun p hp'=>(hp.tok p hp').1
 have key:(Code.region id ops false).wpIn (Ac (X.rnd.map (·.1))) 0 X.P (fun e a' w'=>e=.normal∧∃ (a1:Act) (c':Ctx),a'={ a1 with defers:=ds }∧c'.w=w'∧St X.fn.ntmps c' a1 s3∧Kept c' t.l (.loop (KD t.r (some q)))∧Ext c ⟨c'.w.putObj t.l (.loop t.r),c'.S,c'.γ,c'.H⟩) { a with defers:=ds } c.w:=by
  refine wpIn_region ?_;rw[hl];refine TAc.app hN l1 hst.clr TAk h1 fun a1 c1 TBZ hx1=>?_
  rw[wpOpsIn_cons];unfold wpOpIn;simp only[hj];obtain⟨hg,f,args,ts,as',H',hop,hfv,hw,hy,rfl⟩:=h2;rw[show Region.wanted o (yielded ops ({ a1 with defers:=ds }:Act).tmps)=true from GD TBZ hN hg];simp only[if_true];unfold Oper.wpIn;refine⟨fun _ _=>trivial,?_⟩;rw[Oper.semAt_eq _ _ _ (fun q e=>by rw[hop]at e;cases e)];have hrl:=Hc (c:=c1) (ρv:=a1.eval) (ρ:=s1.ev) (fun x=>TBZ.ev x) args;have hv:=TBZ.ev f;rw[hfv]at hv;have hev:a1.eval f=.func (.yield t.l) #[] #[]:=by generalize a1.eval f=q at hv;cases hv;rfl
  have ht1:TAV c1 t:=(TAk t htk).ext hx1;obtain⟨g,tmps,assign,body,q1,q2⟩:=hy c1 _ TBZ.heap TBZ.H_ ht1 (hrl.TDL hw);have I_:(execOp ({ a1 with defers:=ds }:Act).eval o).run X.P c1.w=.ok (.round t.l g tmps assign body) c1.w:=by
   show(execOp a1.eval o).run X.P c1.w=_;unfold execOp;rw[hop];simp[resolve,Deferred.ofValue,hev,invoke,q1]
  rw[I_,Oper.uponIn_round];refine⟨fun e=>by simp[Ac,ZB3]at e,RoundIn.mono (F:=Ac _) (R:=fun e w'=>∃S' γ',e=.returned (.bool false)∧w'.heap[t.l]?=some (.loop (KD t.r (some q)))∧I' ⟨w'.putObj t.l (.loop t.r),S',γ',H'⟩∧Ext c1 ⟨w'.putObj t.l (.loop t.r),S',γ',H'⟩) q2 ?_⟩;rintro e w' ⟨S',γ',rfl,g1,g2,g3⟩;have TCu:=TBZ.E' g3 g2 (d:=o.dst) (v:=.bool false) (x:=.bool false) (.bool false) hN';have hk2:Kept ⟨w'.putObj t.l (.loop t.r),S',γ',H'⟩ t.l (.loop t.r):=ht1.1.ext (g3.toB 0);have TDS:=TCu.TCQ (o':=.loop (KD t.r (some q))) hk2;have hk3:=MV (o':=.loop (KD t.r (some q))) hk2;have ew:(w'.putObj t.l (.loop t.r)).putObj t.l (.loop (KD t.r (some q)))=w':=by rw[CD];exact BQ g1
  simp only[ew]at TDS hk3;show wpOpsIn _ _ _ _ _ _ (({ a1 with defers:=ds }:Act).put o.dst (.bool false)) w';rw[CE];refine TAc.sound hN l2 (tok:=[]) TDS (fun p hp=>absurd hp V_) h3 fun a' c' TAu hx=>⟨rfl,a',c',rfl,rfl,TAu,hk3.ext (hx.toB 0),?_⟩
  have hsw:=(Ih (o:=.loop t.r) (hx.toB H'.length) hk3.lt).TCI (N' _);exact(hx1.trans g3).trans hsw
 obtain⟨e,a',w',⟨rfl,a1,c',rfl,rfl,TAu,hkp,hx⟩,TD0⟩:=key b k cs hb trivial (La _ _);have h0:=hp.out t.l t.r _ hX hrn;have hx2:TAd X.base c0 ⟨c'.w.putObj t.l (.loop t.r),c'.S,c'.γ,c'.H⟩:=hp.ext.trans (hx.toB _);have e5:(c'.w.putObj t.l (.loop t.r)).putObj t.l (.loop (KD t.r (some q)))=c'.w:=by rw[CD];exact BQ hkp.1
 have hx3:=Ih (o:=.loop (KD t.r (some q))) hx2 h0.lt;simp only[e5]at hx3;have TFU:Kept ⟨c'.w.putObj t.l (.loop t.r),c'.S,c'.γ,c'.H⟩ t.l (.loop t.r):=h0.ext hx2;have hmk:=(hp.marks.ext (hx.toB 0)).TBV TFU (.loop (KD t.r (some q)));simp only[e5]at hmk;obtain⟨v,fr,r,c'',g1,g2,g3,g4,g5,g6,g7⟩:=h hm (Qz.1 ho).2 (fun e=>by cases e) ⟨c0.w.putObj t.l (.loop (KD t.r (some q))),c0.S,c0.γ,c0.H⟩ c' a1 ds TAu
  ⟨hx3,fun p hp=>absurd hp V_,fun l r e=>(by cases e),hmk.size (by simp),fun _ _ _ e _=>(by cases e)⟩ b cs hf hk (by rw[hb,hrn])
 replace g5:TAd X.base ⟨c0.w.putObj t.l (.loop (KD t.r (some q))),c0.S,c0.γ,c0.H⟩ c'':=g5;refine⟨v,fr,r,c'',ZDk (Fi.1 TD0) g1,?_,g3,g4,?_,fun l r e=>(by rw[hrn]at e;cases e),g7⟩
 ·unfold ov at g2 ⊢
  rw[hrn];exact g2
 ·unfold V1
  rw[hX,hrn];refine⟨(MV h0).ext g5,?_⟩;have:=Ih (o:=.loop t.r) g5 (by simpa using h0.lt);simp only[CD]at this;rw[BQ h0.1]at this;exact this
theorem St.ext {N:Nat}{c c':Ctx}{a:Act}{s:AS}(h:St N c a s)(hx:Ext c c')(hr:I' c'):St N c' a { s with h:=c'.H }:=⟨h.size,h.defers,fun i=>hx.rep h.H_ (h.TAQ i),rfl,hr⟩
theorem Ge (w:World)(o:Obj):∀b,b<w.heap.size→(w.alloc o).heap[b]?=w.heap[b]?:=fun b hb=>by
 show(w.heap.push o)[b]?=_;rw[Array.getElem?_push_lt hb,Array.getElem?_eq_getElem hb]
def tZ (q:Option Code):Option Code:=q
def tB (q:Option Code)(k:List Item):List Item:=((tZ q).map Item.code).toList ++ k
theorem Fc {X:Env}(q:Option Code)(hq:lk q){f:Operand}{ps:Array Nat}{assign body:Code}{k:List Item}{s:AS}{gf:FuncId}{G_:List AV}{Hn:List AO}(hX:X.rnd=none)(htk:X.tok=[])(hf:s.ev f=.fn gf G_)
  (hit:∀t:Tok,TBs X.P X.fn ps assign body s t→TBb X.P t q gf (.yld t.l :: G_) s.h Hn) (hk:Run X (tB q k) { s with h:=Hn }):Run X (.code (.rangeFunc f ps assign body) :: k) s:=by
 intro hm ho hrn c0 c a ds hst hp b cs hf' hk' hb;have hb0:b.roundOf=none:=by rw[hb,hX];rfl
 obtain⟨rec,TC5⟩:∃rec:Loop,rec={ state:=.ready,pending:=none,fn:=b.fn,tmps:=a.tmps,params:=ps,assign:=assign,body:=body,defers:=c.w.heap.size }:=⟨_,rfl⟩
 obtain⟨w1,hw1⟩:∃w1,w1=(c.w.alloc (.deferred (some []))).alloc (.loop rec):=⟨_,rfl⟩
 have he:=run_enterLoop_outer (P:=X.P) (w:=c.w) b.fn a.tmps ps assign body;rw[←TC5,←hw1,←hb0]at he;have hD1:w1.heap[c.w.heap.size]?=some (.deferred (some [])):=by
  rw[hw1,Ge _ _ _ (by rw[ZBh];omega)];exact ZDl _ _
 have hL1:w1.heap[c.w.heap.size+1]?=some (.loop rec):=by
  rw[hw1];have:=ZDl (c.w.alloc (.deferred (some []))) (.loop rec);rwa[ZBh]at this
 have hold:∀q,q<c.w.heap.size→w1.heap[q]?=c.w.heap[q]?:=fun q hq=>by
  rw[hw1,Ge _ _ _ (by rw[ZBh];omega),Ge _ _ _ hq]
 have hsz:c.w.heap.size≤w1.heap.size:=by rw[hw1,ZBh,ZBh];omega
 have hx1:Ext c ⟨w1,c.S,c.γ,c.H⟩:=⟨HLe.refl c,fun _ h=>h,fun _ h=>.inl h,fun _ h=>.inr h,fun q hq _=>hold q hq,hsz,by rw[hw1];rfl,by rw[hw1];rfl,by rw[hw1];rfl⟩
 have hr1:I' ⟨w1,c.S,c.γ,c.H⟩:=FB (l:=c.w.heap.size) hst.H_ (fun q=>by have:=hst.H_.bound _ q;omega) (fun q=>by have:=hst.H_.TBH q;omega) hsz (fun q _ hq=>hold q hq);have TBZ:St X.fn.ntmps ⟨w1,c.S,c.γ,c.H⟩ a s:=by
  have:=hst.ext hx1 hr1;rwa[show({ s with h:=(⟨w1,c.S,c.γ,c.H⟩:Ctx).H }:AS)=s by show({ s with h:=c.H }:AS)=s;rw[hst.heap]]at this
 have hkL:Kept ⟨w1,c.S,c.γ,c.H⟩ (c.w.heap.size+1) (.loop rec):=⟨hL1,fun q=>by have:=hst.H_.bound _ q;omega,fun q=>by have:=hst.H_.TBH q;omega⟩
 have hkD:Kept ⟨w1,c.S,c.γ,c.H⟩ c.w.heap.size (.deferred (some [])):=⟨hD1,fun q=>by have:=hst.H_.bound _ q;omega,fun q=>by have:=hst.H_.TBH q;omega⟩
 obtain⟨t,ht⟩:∃t:Tok,t=⟨c.w.heap.size+1,rec,⟨w1,c.S,c.γ,c.H⟩⟩:=⟨_,rfl⟩
 have htl:t.l=c.w.heap.size+1:=by rw[ht]
 have hLI:TBs X.P X.fn ps assign body s t:=by
  rw[ht,TC5];exact⟨rfl,rfl,hf',rfl,rfl,rfl,⟨a,rfl,TC5▸TBZ⟩,hst.heap⟩
 obtain⟨TFV,C'⟩:=hit t hLI;have hfv:=hst.ev f;rw[hf]at hfv;obtain⟨lb,hlb,hrl⟩:∃lb:Array Value,a.eval f=.func (.func gf) #[] lb∧TAH c lb G_:=by
  generalize a.eval f=q at hfv;cases hfv with
  |fn _ vs _ h1 h2=>exact⟨vs,rfl,h1,h2⟩
 have TDR:(resolve a.eval (rangeCall f (c.w.heap.size+1)) 0).run X.P w1=.ok { target:=.fn (.func gf) lb,args:=#[.func (.yield (c.w.heap.size+1)) #[] #[]] } w1:=by
  simp only[resolve,hlb];simp[go_sem]
 have hinv:(invoke (.fn (.func gf) lb) #[.func (.yield (c.w.heap.size+1)) #[] #[]]).run X.P w1=.ok (.enter gf (#[.func (.yield (c.w.heap.size+1)) #[] #[]] ++ lb)) w1:=by
  simp[invoke,TFV _ _]
 have TCZ:=stepR_rangeFunc (P:=X.P) (b:=b) (a:={ a with defers:=ds }) (k:=k) (cs:=cs) (w:=c.w) he TDR hinv;have TBC:TAH ⟨w1,c.S,c.γ,c.H⟩ (#[.func (.yield (c.w.heap.size+1)) #[] #[]] ++ lb) (.yld t.l :: G_):=by
  have h1:TAH ⟨w1,c.S,c.γ,c.H⟩ #[.func (.yield (c.w.heap.size+1)) #[] #[]] [.yld t.l]:=⟨rfl,fun j hj=>by
   obtain rfl:j=0:=by simpa using hj
   rw[htl];exact .yld _⟩
  have h2:TAH ⟨w1,c.S,c.γ,c.H⟩ lb G_:=⟨hrl.1,fun j hj=>hx1.rep hst.H_ (hrl.2 j hj)⟩
  exact F8 h1 h2
 have TAk:TAV ⟨w1,c.S,c.γ,c.H⟩ t:=by rw[ht];exact⟨hkL,Ext.refl _⟩
 obtain⟨e,w3,fr,⟨v,S',γ',rfl,TDj,TD7,TD8⟩,TD9,hfn,TEA⟩:=C' ⟨w1,c.S,c.γ,c.H⟩ _ hst.heap hr1 TAk TBC (b.atR { a with defers:=[Ti c.w.heap.size] ++ ds } (.inRangeFunc (c.w.heap.size+1) :: k) :: cs);rw[htl,show t.r=rec by rw[ht]]at TDj TD7 TD8;obtain⟨wp,hwp⟩:∃wp,wp=w3.putObj (c.w.heap.size+1) (.loop rec):=⟨_,rfl⟩
 rw[←hwp]at TD7 TD8;have hr3:=TD7;have hx3:=TD8;have TEi:=hkL.ext (hx3.toB 0);have TFW:=hkD.ext (hx3.toB 0);have TAo:=run_endLoop (P:=X.P) TDj (by rw[TC5];cases q <;> simp[KD]);obtain⟨rx,hrx⟩:∃rx:Loop,rx={ KD rec q with state:=.exhausted }:=⟨_,rfl⟩
 rw[←hrx]at TAo;have TEj:(KD rec q).pending=tZ q:=by rw[TC5];cases q <;> rfl
 rw[TEj]at TAo;have ewp:w3.putObj (c.w.heap.size+1) (.loop rx)=wp.putObj (c.w.heap.size+1) (.loop rx):=by rw[hwp,CD]
 rw[ewp]at TAo;have TCp:=step_leave_returned (c:=b.atR { a with defers:=[Ti c.w.heap.size] ++ ds } (.inRangeFunc (c.w.heap.size+1) :: k)) (cs:=cs) TEA;rw[finish_atR_inRangeFunc]at TCp;have TBj:=stepR_endRangeFunc (P:=X.P) (b:=b) (a:={ a with defers:=[Ti c.w.heap.size] ++ ds }) (k:=k) (cs:=cs) TAo;have TDS:St X.fn.ntmps ⟨wp,S',γ',Hn⟩ a { s with h:=Hn }:=TBZ.ext hx3 hr3;have TFX:=TDS.TCQ (o':=.loop rx) TEi;have hxB:TAd X.base c0 ⟨wp.putObj (c.w.heap.size+1) (.loop rx),S',γ',Hn⟩:=by
  have h1:=(hp.ext.trans (hx1.toB _)).trans (hx3.toB _);have h2:=hp.ext.size;exact SU (c:=⟨wp,S',γ',Hn⟩) (l:=c.w.heap.size+1) h1 (by omega) (by simp) (Jt _ _ _) rfl rfl rfl
 have hmk:Marks c0 ⟨wp.putObj (c.w.heap.size+1) (.loop rx),S',γ',Hn⟩ (Ti c.w.heap.size :: ds):=by
  have hd:∀ds:List Deferred,Marks c0 c ds→Ti c.w.heap.size∉ds:=by
   intro ds
   induction ds with
   |nil=>simp
   |cons d ds ih =>
    rintro⟨⟨D,rfl,q1,q2,q3⟩,q⟩ TAW;rcases b_.1 TAW with e |e
    ·have:c.w.heap.size=D:=by injection e with e1;injection e1
     have:=q2.lt;omega
    ·exact ih q e
  refine⟨⟨_,rfl,hp.ext.size,TFW.TCQ (by omega) (Jt _ _ _),hd ds hp.marks⟩,?_⟩;exact(((hp.marks.ext (hx1.toB 0)).ext (hx3.toB 0))).TBV TEi _
 obtain⟨v',fr',r',c',k1,k2⟩:=hk hm (by cases q with
  |none=>exact(Qz.1 ho).2
  |some c=>rcases hq c rfl with rfl | ⟨id,rfl⟩ <;> exact Qz.2 ⟨rfl,(Qz.1 ho).2⟩) hrn c0 ⟨wp.putObj (c.w.heap.size+1) (.loop rx),S',γ',Hn⟩ a (Ti c.w.heap.size :: ds) TFX
  ⟨hxB,fun p hp'=>absurd hp' (by rw[htk];exact V_),fun l r e=>(by rw[hX]at e;cases e),hmk,hp.out⟩ b cs hf' hk' hb
 refine⟨v',fr',r',c',.head TCZ (ZDk (show Steps X.P _ _ from TD9) (  .head TCp (.head TBj k1))),?_,k2.2⟩;have:=k2.1;unfold ov at this ⊢;rw[hX]at this ⊢;exact this
theorem G9 {X:Env}{f:Operand}{ps:Array Nat}{assign body:Code}{k:List Item}{s:AS}{gf:FuncId}{G_:List AV}{Hn:List AO}(hX:X.rnd=none)(htk:X.tok=[])(hf:s.ev f=.fn gf G_)
  (hit:∀t:Tok,TBs X.P X.fn ps assign body s t→TBt X.P t gf (.yld t.l :: G_) s.h Hn) (hk:Run X k { s with h:=Hn }):Run X (.code (.rangeFunc f ps assign body) :: k) s :=
 Fc none (fun c e=>by cases e) hX htk hf hit hk
section
variable (P:Program) (fn:Func) (str hcs:List Nat) (m l:Nat) (r:Loop) (t:Tok) (q:Code) (H:List AO)
theorem vR:(VD P fn str hcs t m H).P=P:=C_ rfl
theorem jV:(VD P fn str hcs t m H).str=str:=C_ rfl
theorem jU:(VD P fn str hcs t m H).hcs=hcs:=C_ rfl
theorem vU:(SQ P fn str hcs m l r H).P=P:=C_ rfl
theorem kf:(SQ P fn str hcs m l r H).str=888888 :: str:=C_ rfl
theorem ke:(SQ P fn str hcs m l r H).hcs=hcs:=C_ rfl
theorem vS:(jW P fn str hcs t q m H).P=P:=C_ rfl
theorem jX:(jW P fn str hcs t q m H).str=str:=C_ rfl
end
theorem yY {P:Program}{fn:Func}{str hcs:List Nat}{t:Tok}{m:Nat}{H:List AO}{s:AS}(hr:fn.results=#[])(h:s.h.take m=H):TBT (VD P fn str hcs t m H) s :=
 ⟨.tup [],by show Au P fn s=_;simp[Au,hr,JL,BO],h⟩
theorem zW {P:Program}{fn:Func}{str hcs:List Nat}{m:Nat}{H:List AO}{s:AS}(hr:fn.results=#[])(h:s.h.take m=H):TAC (yB P fn str hcs m H) s :=
 ⟨.tup [],by show Au P fn s=_;simp[Au,hr,JL,BO],h⟩
theorem zX {P:Program}{fn:Func}{str hcs:List Nat}{m l:Nat}{r:Loop}{H:List AO}{s:AS}(h:s.h.take m=H):TBT (SQ P fn str hcs m l r H) s:=⟨.any,rfl,h⟩
theorem VF {P:Program}{fn:Func}{str hcs:List Nat}{m l:Nat}{r:Loop}{H:List AO}{k:List Item}{s:AS}(hr:r.state=.ready)(h:Run (SQ P fn str hcs m l { r with state:=.busy } H) k s):Run (SQ P fn str hcs m l r H) (.beginRound :: k) s :=
 Pn (X:=SQ P fn str hcs m l r H) rfl rfl hr h
theorem NM (X:Env)(n:Nat)(f:Operand)(ps:Array Nat)(a b:Code)(k:List Item)(s:AS):vc X (n+1) (.code (.rangeFunc f ps a b) :: k) s=bm X (.code (.rangeFunc f ps a b) :: k) .mk s:=C_ rfl
theorem bg (X:Env)(n:Nat)(k:List Item)(s:AS):vc X (n+1) (.beginRound :: k) s=bm X (.beginRound :: k) .mk s:=C_ rfl
set_option linter.defProp false
def JD:=XB @NM <| XB @bg <| XB @vR <| XB @jV <| XB @jU <| XB @vU <| XB @kf <| XB @ke <| XB @vS <| @jX
end
end Go.Ab
