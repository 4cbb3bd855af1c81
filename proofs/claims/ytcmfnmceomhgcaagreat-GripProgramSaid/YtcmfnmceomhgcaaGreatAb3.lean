/- A layer of abstract values and heaps over the model; what is proved here is that its steps and contracts are sound, for every program. -/
import Derived.Test.YtcmfnmceomhgcaaGreatAb2
set_option linter.unusedSimpArgs false
set_option linter.unusedVariables false
namespace Go.Ab
open Go Go.RowKit
noncomputable section
def Ju (P:Program)(fn:Func)(str hcs:List Nat)(r:AV):Env:=⟨P,fn,str,hcs,0,none,[],none,fun v H=>Zs H v r⟩
@[simp] theorem resX_P (P:Program)(fn:Func)(str hcs:List Nat)(r:AV)(s:AS):Sj (Ju P fn str hcs r) s=ZN P fn s:=rfl
def AS.start (n0:Nat)(hid:List Nat)(args:List AV)(H:List AO):AS:=⟨n0,hid,args ++ List.replicate (n0-args.length) .any,[],H⟩
theorem kf {N n0:Nat}{hid:List Nat}{args:List AV}{c:Ctx}{vs:Array Value}(hr:HRel c)(hv:RepL c vs args)(hlen:args.length≤N) :
  St N c { tmps:=vs ++ Array.replicate (N-vs.size) undef,defers:=[] } (AS.start n0 hid args c.H):=by
 refine⟨by simp;have:=hv.1;omega,rfl,fun i=>?_,rfl,hr⟩;unfold AS.get AS.start;simp only
 split
 ·by_cases hi:i<args.length
  ·have e1:(args ++ List.replicate (n0-args.length) AV.any).getD i .any=args.getD i .any:=by
    simp[List.getD_eq_getElem?_getD,List.getElem?_append_left hi]
   have e2:(vs ++ Array.replicate (N-vs.size) undef).getD i undef=vs.getD i undef:=by
    simp[Array.getD_eq_getD_getElem?,Array.getElem?_append_left (show i<vs.size by rw[hv.1];exact hi)]
   rw[e1,e2];exact hv.2 i hi
  ·have e1:(args ++ List.replicate (n0-args.length) AV.any).getD i .any=.any:=by
    rw[List.getD_eq_getElem?_getD,List.getElem?_append_right (by omega),List.getElem?_replicate]
    split <;> rfl
   rw[e1];exact .any _
 ·exact .any _
theorem Fg {X:Env}{f:FuncId}{body:Code}(hf:X.P.funcs[f]?=some X.fn)(hb:X.fn.body=some body)(hm:X.P.follows .mixedOrders=true)(hok:QC X.fn.ntmps X.str X.hcs body=true)(hn:X.rnd=none)
  {c:Ctx} {vs:Array Value} {args:List AV} (hr:HRel c) (hv:RepL c vs args) (hlen:args.length≤X.fn.ntmps) {n0:Nat} {hid:List Nat} (h:Run X [.code body] (AS.start n0 hid args c.H)) (htok:∀p∈X.tok,TokOk c p∧p.ce.H.length≤X.base) (hout:∀l r r1,X.out=some (l,r,r1)→Kept c l (.loop r))
  {R:Ending→World→Prop} (hR:∀v r c',Rep c' v r→HRel c'→Tt X c c'→X.Q r c'.H→R (.returned v) c'.w):Calls X.P f vs c.w R:=by
 intro cs
 let b:Frame:={ (default:Frame)with fn:=f,kind:=.normal,roundOf:=none }
 have henter:Frame.enter X.P f vs .normal=b.atR { ({ tmps:=vs ++ Array.replicate (X.fn.ntmps-vs.size) undef,defers:=[] }:Act)with defers:=[] } [.code body]:=by
  simp[Frame.enter,Frame.atR,hf,hb,b]
 obtain⟨v,fr,r,c',h1,h2,h4,h5,h6,h6',h7⟩:=h hm (by intro i hi;simp at hi;subst hi;exact hok) (by rw[hn];simp) c c _ [] (kf hr hv hlen) ⟨(Ext.refl c).toB _,htok,fun l r e=>(by rw[hn]at e;cases e),trivial,fun l r r1 e _=>hout l r r1 e⟩ b cs hf rfl (by rw[hn];rfl);rw[←henter]at h1;unfold ll at h2;rw[hn]at h2;exact⟨.returned v,c'.w,fr,hR v r c' h4 h5 h6 h7,h1,h2.1,h2.2⟩
theorem Bo {X:Env}{f:FuncId}{body:Code}(hf:X.P.funcs[f]?=some X.fn)(hb:X.fn.body=some body)(hm:X.P.follows .mixedOrders=true)(hok:QC X.fn.ntmps X.str X.hcs body=true)(hn:X.rnd=none)
  {c:Ctx} {vs:Array Value} {args:List AV} (hr:HRel c) (hv:RepL c vs args) (hlen:args.length≤X.fn.ntmps) {n0:Nat} {hid:List Nat} (h:Run X [.code body] (AS.start n0 hid args c.H)) (htok:∀p∈X.tok,TokOk c p∧p.ce.H.length≤X.base)
  {R:Ending→World→Prop} (hR:∀v r c',Rep c' v r→HRel c'→ExtB X.base c c'→X.Q r c'.H→R (.returned v) c'.w) (ho:X.out=none:=by rfl):Calls X.P f vs c.w R :=
 Fg hf hb hm hok hn hr hv hlen h htok (fun l r r1 e=>by rw[ho]at e;cases e) fun v r c' h1 h2 h3 h4=>hR v r c' h1 h2 (by rw[FS ho]at h3;exact h3) h4
theorem PureCall.intro {P:Program}{f:FuncId}{fn:Func}{body:Code}(he:BL P f)(hf:P.funcs[f]?=some fn)(hb:fn.body=some body)(hm:P.follows .mixedOrders=true){args:List AV}{r:AV}
  (n0:Nat) (hid str hcs:List Nat) (hok:QC fn.ntmps str hcs body=true) (hlen:args.length≤fn.ntmps) (h:Run (Ju P fn str hcs r) [.code body] (AS.start n0 hid args [])):PureCall P f args r:=by
 refine⟨he,fun w S vs hS hv=>?_⟩;refine Bo (X:=Ju P fn str hcs r) (c:=.bare w S) hf hb hm hok rfl (YY hS) hv hlen h (fun p hp=>absurd hp (List.not_mem_nil)) ?_;intro v r' c' h1 h2 h3 h4;refine⟨v,MQ c',rfl,h4 c' v rfl h2 h1,fun b hb=>hb.elim (h2.bound b) h2.ownLt,?_⟩;exact⟨fun id o ho=>by simp[Ctx.bare]at ho,fun b hb=>.inl (h3.smono b hb),fun b hb=>by
   rcases hb with hb |hb
   ·exact h3.snew b hb
   ·exact(h3.onew b hb).imp id id |>.elim (fun h=>.inr (.inl h)) (fun h=>absurd h CR),
  fun b hb=>absurd hb CR,fun b hb hn=>h3.same b hb hn,h3.size,h3.os,h3.tape,h3.output⟩
def Ly (P:Program)(fn:Func)(str hcs:List Nat)(base:Nat)(r:AV)(H':List AO):Env:=⟨P,fn,str,hcs,base,none,[],none,fun v H=>v=r∧H=H'⟩
@[simp] theorem resX_H (P:Program)(fn:Func)(str hcs:List Nat)(b:Nat)(r:AV)(H:List AO)(s:AS):Sj (Ly P fn str hcs b r H) s=ZN P fn s:=rfl
theorem HCall.intro {P:Program}{f:FuncId}{fn:Func}{body:Code}(he:BL P f)(hf:P.funcs[f]?=some fn)(hb:fn.body=some body)(hm:P.follows .mixedOrders=true){args:List AV}{H H':List AO}{r:AV}
  (n0:Nat) (hid str hcs:List Nat) (hok:QC fn.ntmps str hcs body=true) (hlen:args.length≤fn.ntmps) (h:Run (Ly P fn str hcs H.length r H') [.code body] (AS.start n0 hid args H)):HCall P f args H r H':=by
 refine⟨he,?_⟩;rintro c vs rfl hr hv;refine Bo (X:=Ly P fn str hcs c.H.length r H') hf hb hm hok rfl hr hv hlen h (fun p hp=>absurd hp (List.not_mem_nil)) ?_;rintro v r' ⟨w',S',γ',H''⟩ h1 h2 h3 ⟨rfl,rfl⟩;exact⟨v,S',γ',rfl,h1,h2,h3.toExt (Nat.le_refl _)⟩
def Xm:List AV→List AV→Prop
 |_,[]=>True
 |a :: l,b :: l'=>(b=.any∨a=b)∧Xm l l'
 | [],b :: l'=>b=.any∧Xm [] l'
def Xw (tm:List (Nat×AV)):List (Nat×AV)→Prop
 | []=>True
 | (i,v) :: l=>(v=.any∨XA tm i=v)∧Xw tm l
theorem GS:∀ {l l':List AV},Xm l l'→∀i,l'.getD i .any=.any∨l.getD i .any=l'.getD i .any
 |l,[],_,i=>.inl (by simp)
 |a :: l,b :: l',h,0=>by simpa using h.1
 |a :: l,b :: l',h,i+1=>by simpa using GS h.2 i
 | [],b :: l',h,0=>.inl (by simpa using h.1)
 | [],b :: l',h,i+1=>by simpa using GS h.2 i
theorem My {tm:List (Nat×AV)}:∀ {l:List (Nat×AV)},Xw tm l→∀i,XA l i=.any∨XA tm i=XA l i
 | [],_,i=>.inl rfl
 | (j,v) :: l,h,i=>by
  simp only[XA];by_cases hi:i=j
  ·subst hi;simpa using h.1
  ·simp only[hi,if_false];exact My h.2 i
theorem Xi {m:Nat}{s s':AS}(h1:s'.n0=s.n0)(h3:Xm s.sl s'.sl)(h4:Xw s.tm s'.tm)(h5:s.h=s'.h):Sub m s s':=by
 intro N c a hst;refine⟨c,rfl,(Ext.refl c).toB m,hst.size,hst.defers,fun i=>?_,by rw[←h5];exact hst.heap,hst.hrel⟩;have:=hst.slots i;unfold AS.get at this ⊢;rw[h1]
 split
 ·rename_i hi
  simp only[hi,if_true]at this;rcases GS h3 i with e |e
  ·rw[e];exact .any _
  ·rw[←e];exact this
 ·rename_i hi
  simp only[hi,if_false]at this;rcases My h4 i with e |e
  ·rw[e];exact .any _
  ·rw[←e];exact this
def Jq (m:Nat)(a:AV):Prop:=∀ (c:Ctx) v,Rep c v a→Rep ⟨c.w,c.S,c.γ,c.H.take m⟩ v a
theorem X6 {m:Nat}{a:AV}(h:Settled a):Jq m a:=fun c v hv=>I8 (h c v hv) _ _
theorem Gk {H:List AO}{m id:Nat}(h:id<m):inf (H.take m) id=inf H id:=by simp[inf,List.getElem?_take,h]
theorem FP {H:List AO}{m id ver:Nat}(h:id<m)(hs:stale H id ver):stale (H.take m) id ver:=by
 rcases hs with⟨v,hi,hlt⟩ |hd
 ·exact .inl ⟨v,by rw[Gk h];exact hi,hlt⟩
 ·exact .inr (by simp[h,hd])
theorem JR {m id ver es off n:Nat}(h:id<m):Jq m (.osl id ver es off n):=fun c v hv=>by
 cases hv with
 |osl _ _ _ _ _ cap b sz hi hg hn hcap hmx=>exact .osl _ _ _ _ _ _ b sz (by rw[←Gk h]at hi;exact hi) hg hn hcap hmx
 |oslz _ _ _ _ a hi=>exact .oslz _ _ _ _ _ (by rw[←Gk h]at hi;exact hi)
 |oslOld _ _ _ _ _ a cap hn hs=>exact .oslOld _ _ _ _ _ _ _ hn (FP h hs)
 |oslzOld _ _ _ _ a hs=>exact .oslzOld _ _ _ _ _ (FP h hs)
theorem QH {m id ver off:Nat}(h:id<m):Jq m (.ref id ver off):=fun c v hv=>by
 cases hv with
 |ref _ _ _ b sz hi hg=>exact .ref _ _ _ b sz (by rw[←Gk h]at hi;exact hi) hg
 |refOld _ _ _ a hs=>exact .refOld _ _ _ _ (FP h hs)
theorem me {m:Nat}{l:List AV}(hl:∀a∈l,Jq m a):Jq m (.agg l):=fun c v hv=>by
 cases hv with
 |agg vs _ hs hr=>exact .agg vs l hs fun j hj=>hl _ (by rw[List.getD_eq_getElem?_getD,List.getElem?_eq_getElem hj];exact List.getElem_mem _) c _ (hr j hj)
theorem TP {m:Nat}{g:FuncId}{l:List AV}(hl:∀a∈l,Jq m a):Jq m (.fn g l):=fun c v hv=>by
 cases hv with
 |fn _ vs _ hs hr=>exact .fn g vs l hs fun j hj=>hl _ (by rw[List.getD_eq_getElem?_getD,List.getElem?_eq_getElem hj];exact List.getElem_mem _) c _ (hr j hj)
def Qa (m:Nat):AO→Prop
 | .row _ n f=>∀j,j<n→Jq m (f j)
 | .con _ n f=>∀j,j<n→Jq m (f j)
 | .map _ g=>∀n a,g n=some a→Jq m a
 |_=>True
theorem XT {b m:Nat}{s s':AS}(hbm:b≤m)(h1:s'.n0=s.n0)(h3:Xm s.sl s'.sl)(h4:Xw s.tm s'.tm)(h5:s.h.take m=s'.h)
  (h6:∀a∈s'.sl,Jq m a) (h7:∀p∈s'.tm,Jq m p.2) (h8:∀o∈s'.h,Qa m o):Sub b s s':=by
 intro N c a hst;have hH:c.H=s.h:=hst.heap;have hget:∀ (i:Nat) (o:AO),(c.H.take m)[i]?=some o→c.H[i]?=some o∧i<m:=by
  intro i o ho;rw[List.getElem?_take]at ho
  split at ho
  ·exact⟨ho,by assumption⟩
  ·cases ho
 have hmem:∀ (i:Nat) (o:AO),(c.H.take m)[i]?=some o→Qa m o:=fun i o ho=>h8 o (by rw[←h5,←hH];exact List.mem_of_getElem? ho)
 refine⟨⟨c.w,c.S,c.γ,c.H.take m⟩,rfl,?_,hst.size,hst.defers,fun i=>?_,by rw[←h5,hH],?_⟩
 ·refine⟨?_,fun _ h=>h,fun _ h=>.inl h,?_,fun _ _ _=>rfl,Nat.le_refl _,rfl,rfl,rfl⟩
  ·intro id o hlt ho
   have h0:(c.H.take m)[id]?=some o:=by rw[List.getElem?_take,if_pos (by omega)];exact ho
   cases o with
   |unborn=>trivial
   |dead=>exact h0
   |row v _ _=>exact .inr ⟨v,by simp[inf,h0,AO.info],.inr ⟨rfl,rfl⟩⟩
   |con v _ _=>exact .inr ⟨v,by simp[inf,h0,AO.info],.inr ⟨rfl,rfl⟩⟩
   |map k g=>exact .inr ⟨⟨k,g,h0⟩,rfl⟩
  ·rintro x ⟨id,o,sz,ho,hown,hg⟩
   exact .inr ⟨id,o,sz,(hget id o ho).1,hown,hg⟩
 ·have:=hst.slots i
  unfold AS.get at this ⊢;rw[h1]
  split
  ·rename_i hi
   simp only[hi,if_true]at this;have hb:Jq m (s'.sl.getD i .any):=by
    rw[List.getD_eq_getElem?_getD];cases hx:s'.sl[i]? with
    |none=>exact fun _ v _=>.any v
    |some x=>exact h6 _ (List.mem_of_getElem? hx)
   rcases GS h3 i with e |e
   ·rw[e];exact .any _
   ·rw[e]at this;exact hb c _ this
  ·rename_i hi
   simp only[hi,if_false]at this;have hb:Jq m (XA s'.tm i):=by
    have:∀l:List (Nat×AV),(∀p∈l,Jq m p.2)→Jq m (XA l i):=by
     intro l
     induction l with
     |nil=>exact fun _ _ v _=>.any v
     |cons x l ih =>
      intro hl;obtain⟨j,v⟩:=x;simp only[XA]
      split
      ·exact hl (j,v) (by simp)
      ·exact ih fun p hp=>hl p (by simp[hp])
    exact this _ h7
   rcases My h4 i with e |e
   ·rw[e];exact .any _
   ·rw[e]at this;exact hb c _ this
 ·refine⟨?_,?_,?_,?_,hst.hrel.bound⟩
  ·intro id v n f ho
   have hb:=hmem _ _ ho;rcases hst.hrel.row id v n f (hget _ _ ho).1 with h | ⟨b,sz,cs,el,g1,g2,g3,g4,g5,g6⟩
   ·exact .inl h
   ·exact .inr ⟨b,sz,cs,el,g1,g2,g3,g4,g5,fun j hj=>hb j hj c _ (g6 j hj)⟩
  ·intro id v n f ho
   have hb:=hmem _ _ ho;rcases hst.hrel.con id v n f (hget _ _ ho).1 with h | ⟨b,sz,cs,el,fr,g1,g2,g3,g4,g5,g6⟩
   ·exact .inl h
   ·exact .inr ⟨b,sz,cs,el,fr,g1,g2,g3,g4,g5,fun j hj=>hb j hj c _ (g6 j hj)⟩
  ·intro id k g ho
   have hb:=hmem _ _ ho;obtain⟨b,sz,es,cl,g1,g2,g3,g4⟩:=hst.hrel.map id k g (hget _ _ ho).1;exact⟨b,sz,es,cl,g1,g2,g3,g4.keys,g4.uniq,fun n a hn=>let ⟨e,he,hk,hr⟩:=g4.hit n a hn; ⟨e,he,hk,hb n a hn c _ hr⟩,g4.miss⟩
  ·intro i i' o o' b sz sz' ho ho' g1 g2 hg hg'
   exact hst.hrel.inj _ _ _ _ _ _ _ (hget _ _ ho).1 (hget _ _ ho').1 g1 g2 hg hg'
theorem Xj {X:Env}{ι:Type}{body:Code}{k:List Item}{s:AS}(st:ι→AS)(inv:ι→Prop)(μ:ι→Nat)(i0:ι)(h0:inv i0)(hs:Sub X.base s (st i0))
  (round:∀i,inv i→(∀j s',inv j→μ j<μ i→Sub X.base s' (st j)→Run X (.inLoop body :: k) s')→Run X (.code body :: .inLoop body :: k) (st i)):Run X (.code (.loop body) :: k) s:=by
 have key:∀n i,μ i=n→inv i→Run X (.code body :: .inLoop body :: k) (st i):=by
  intro n
  induction n using Nat.strongRecOn with
  |_ n ih =>
   intro i hn hi;refine round i hi fun j s' hj hlt hsub=>?_
   exact DB ((ih (μ j) (by omega) j rfl hj).sub hsub)
 exact EY ((key _ i0 rfl h0).sub hs)
end
end Go.Ab
namespace Go.Ab
open Go Go.RowKit
noncomputable section
section
variable (X:Env) (n:Nat) (k:List Item) (s:AS)
theorem tL (a b:Code):vc X (n+1) (.code (.seq a b) :: k) s=vc X n (.code a :: .code b :: k) s:=nrfl rfl
theorem pz:vc X (n+1) (.code .skip :: k) s=vc X n k s:=nrfl rfl
theorem kM (l:Nat):vc X (n+1) (.code (.label l) :: k) s=vc X n k s:=nrfl rfl
theorem kI (i:Nat)(b:Code):vc X (n+1) (.code (.block i b) :: k) s=vc X n (.code b :: .inBlock i :: k) s:=nrfl rfl
theorem kN (b:Code):vc X (n+1) (.code (.scope b) :: k) s=vc X n (.code b :: .inScope b :: k) s:=nrfl rfl
theorem V6 (i:Nat):vc X (n+1) (.inBlock i :: k) s=vc X n k s:=nrfl rfl
theorem V7 (c:Code):vc X (n+1) (.inScope c :: k) s=vc X n k s:=nrfl rfl
theorem py (i:Nat):vc X (n+1) (.code (.exit i) :: k) s=match exitTo i k with |some k'=>vc X n k' s |none=>False:=rfl
theorem pv (o:Operand)(a b:Code):vc X (n+1) (.code (.cond o a b) :: k) s=match s.ev o with
 | .bool t=>(t=true→vc X n (.code a :: k) s)∧(t=false→vc X n (.code b :: k) s)
 | .abool=>vc X n (.code a :: k) s∧vc X n (.code b :: k) s
 |_=>False:=rfl
variable (all:Array Oper) (st:Nat→Bool) (hc:Bool) (bs:Option Nat) (i nx:Nat) (os:List Oper)
theorem cE (M:Md):Xu X (n+1) M [] k s=vc X n k s:=nrfl rfl
theorem Ih (M:Md)(d:Option Nat)(op:Op)(t:TypeId)(p:String)(af:Array Edge)(j:Nat)(want:Bool):Xu X (n+1) M (⟨d,op,t,p,af,some (j,want)⟩ :: os) k s =
  match (M.all[j]?).bind (·.dst)with
  |some e=>match s.get e with
    | .bool b=>(b=true→if want=true then Qh X n M ⟨d,op,t,p,af,some (j,want)⟩ os k (s.fix e (.bool true))else Xu X n (M.next ⟨d,op,t,p,af,some (j,want)⟩) os k ((s.fix e (.bool true)).putO d XO)) ∧
                 (b=false→if want=false then Qh X n M ⟨d,op,t,p,af,some (j,want)⟩ os k (s.fix e (.bool false))else Xu X n (M.next ⟨d,op,t,p,af,some (j,want)⟩) os k ((s.fix e (.bool false)).putO d XO))
    | .tup []=>Xu X n (M.next ⟨d,op,t,p,af,some (j,want)⟩) os k (s.putO d XO)
    |_=>False
  |none=>False:=rfl
theorem aD (b:Nat)(o:Oper):Md.next ⟨all,st,hc,some b,i,nx⟩ o=⟨all,st,hc,some b,i+1,if Qx hc o.op=2 then nx+1 else nx⟩:=rfl
theorem Ji (M:Md)(o:Oper)(h1:Ah o.op=none)(h2:Qx M.hcall o.op≠2) :
 Qh X (n+1) M o os k s=XY (QU X.P (M.strict M.i) none o.op s.ev s.h) fun r=>Xu X n (M.next o) os k (({ s with h:=r.2 }:AS).putO o.dst r.1):=by
 unfold Qh;simp only[h1];cases M.base with
 |none=>rfl
 |some b=>simp only[h2,if_false]
theorem CB (o:Oper)(h1:Ah o.op=none) :
 Qh X (n+1) ⟨all,st,hc,none,i,nx⟩ o os k s=XY (QU X.P (st i) none o.op s.ev s.h) fun r=>Xu X n ⟨all,st,hc,none,i+1,nx⟩ os k (({ s with h:=r.2 }:AS).putO o.dst r.1):=by
 unfold Qh;simp only[h1];rfl
theorem Na (b:Nat)(o:Oper)(h1:Ah o.op=none)(h2:Qx hc o.op=2) :
 Qh X (n+1) ⟨all,st,hc,some b,i,nx⟩ o os k s=(s.h[nx]?=some .unborn∧XY (QU X.P (st i) (some nx) o.op s.ev s.h) fun r=>Xu X n ⟨all,st,hc,some b,i+1,nx+1⟩ os k (({ s with h:=r.2 }:AS).putO o.dst r.1)):=by
 unfold Qh;simp only[h1,h2,if_true,Md.next]
end
theorem BH {α β:Type}(f:α→β)(o:Option α)(K:β→Prop):XY (o.map f) K=XY o (fun x=>K (f x)):=by
 unfold XY;cases o <;> simp
section
variable (X:Env) (n:Nat) (k:List Item) (s:AS) (all:Array Oper) (st:Nat→Bool) (hc:Bool) (bs:Option Nat) (i nx:Nat) (os:List Oper) (d:Option Nat) (t:TypeId) (p:String) (af:Array Edge) (g:Option (Nat×Bool))
theorem Jd (M:Md)(o:Oper)(h2:Qx M.hcall o.op≠2):M.next o={ M with i:=M.i+1 }:=by
 unfold Md.next;cases M.base with
 |none=>rfl
 |some b=>simp[h2]
theorem Ig (o:Op)(v:AV)(h1:Ah o=none)(h2:Qx hc o≠2)(h3:QU X.P (st i) none o s.ev s.h=some (v,s.h)) :
 Qh X (n+1) ⟨all,st,hc,bs,i,nx⟩ ⟨d,o,t,p,af,g⟩ os k s=Xu X n ⟨all,st,hc,bs,i+1,nx⟩ os k (s.putO d v):=by
 rw[Ji (h1:=h1) (h2:=h2),h3,obind_some,Jd (h2:=h2)]
theorem Zb (o:Op)(q:Option AV)(h1:Ah o=none)(h2:Qx hc o≠2)(h3:QU X.P (st i) none o s.ev s.h=q.map fun v=>(v,s.h)) :
 Qh X (n+1) ⟨all,st,hc,bs,i,nx⟩ ⟨d,o,t,p,af,g⟩ os k s=XY q fun v=>Xu X n ⟨all,st,hc,bs,i+1,nx⟩ os k (s.putO d v):=by
 rw[Ji (h1:=h1) (h2:=h2),h3,BH,Jd (h2:=h2)]
theorem cz (o:Op)(q:Option (List AO)) (h1:Ah o=none) (h2:Qx hc o≠2) (h3:QU X.P (st i) none o s.ev s.h=q.map fun h'=>(XO,h')) :
 Qh X (n+1) ⟨all,st,hc,bs,i,nx⟩ ⟨d,o,t,p,af,g⟩ os k s=XY q fun h'=>Xu X n ⟨all,st,hc,bs,i+1,nx⟩ os k (({ s with h:=h' }:AS).putO d XO):=by
 rw[Ji (h1:=h1) (h2:=h2),h3,BH,Jd (h2:=h2)]
theorem W9 (x:Operand):Qh X (n+1) ⟨all,st,hc,bs,i,nx⟩ ⟨d,.move x,t,p,af,g⟩ os k s=Xu X n ⟨all,st,hc,bs,i+1,nx⟩ os k (s.putO d (s.ev x)):=Ig _ _ _ _ _ _ _ _ _ _ _ _ _ _ _ _ _ _ rfl (by simp[Qx]) rfl
theorem NN (x:Operand):Qh X (n+1) ⟨all,st,hc,bs,i,nx⟩ ⟨d,.assign x,t,p,af,g⟩ os k s=Xu X n ⟨all,st,hc,bs,i+1,nx⟩ os k (s.putO d (s.ev x)):=Ig _ _ _ _ _ _ _ _ _ _ _ _ _ _ _ _ _ _ rfl (by simp[Qx]) rfl
theorem W7 (u:TypeId)(x:Operand):Qh X (n+1) ⟨all,st,hc,bs,i,nx⟩ ⟨d,.load u x,t,p,af,g⟩ os k s=XY (Qm X.P (st i) u (s.ev x) s.h) fun v=>Xu X n ⟨all,st,hc,bs,i+1,nx⟩ os k (s.putO d v):=Zb _ _ _ _ _ _ _ _ _ _ _ _ _ _ _ _ _ _ rfl (by simp[Qx]) rfl
theorem jf (o:BinOp)(u u':TypeId)(x y:Operand):Qh X (n+1) ⟨all,st,hc,bs,i,nx⟩ ⟨d,.binOp o u x y u',t,p,af,g⟩ os k s=XY (IV X.P o u y (s.ev x) (s.ev y)) fun v=>Xu X n ⟨all,st,hc,bs,i+1,nx⟩ os k (s.putO d v):=Zb _ _ _ _ _ _ _ _ _ _ _ _ _ _ _ _ _ _ rfl (by simp[Qx]) rfl
theorem qv (o:UnOp)(u:TypeId)(x:Operand):Qh X (n+1) ⟨all,st,hc,bs,i,nx⟩ ⟨d,.unOp o u x,t,p,af,g⟩ os k s=XY (ri o (s.ev x)) fun v=>Xu X n ⟨all,st,hc,bs,i+1,nx⟩ os k (s.putO d v):=Zb _ _ _ _ _ _ _ _ _ _ _ _ _ _ _ _ _ _ rfl (by simp[Qx]) rfl
theorem W5 (u u':TypeId)(x:Operand):Qh X (n+1) ⟨all,st,hc,bs,i,nx⟩ ⟨d,.convert u u' x,t,p,af,g⟩ os k s=XY (Nf X.P u u' (s.ev x)) fun v=>Xu X n ⟨all,st,hc,bs,i+1,nx⟩ os k (s.putO d v):=Zb _ _ _ _ _ _ _ _ _ _ _ _ _ _ _ _ _ _ rfl (by simp[Qx]) rfl
theorem Gv (u:TypeId)(x y:Operand):Qh X (n+1) ⟨all,st,hc,bs,i,nx⟩ ⟨d,.indexAddr u x y,t,p,af,g⟩ os k s=XY (D4 X.P u (s.ev x) (s.ev y)) fun v=>Xu X n ⟨all,st,hc,bs,i+1,nx⟩ os k (s.putO d v):=Zb _ _ _ _ _ _ _ _ _ _ _ _ _ _ _ _ _ _ rfl (by simp[Qx]) rfl
theorem Gu (u:TypeId)(x:Operand)(j:Nat):Qh X (n+1) ⟨all,st,hc,bs,i,nx⟩ ⟨d,.fieldAddr u x j,t,p,af,g⟩ os k s=XY (Ce X.P u (s.ev x) j) fun v=>Xu X n ⟨all,st,hc,bs,i+1,nx⟩ os k (s.putO d v):=Zb _ _ _ _ _ _ _ _ _ _ _ _ _ _ _ _ _ _ rfl (by simp[Qx]) rfl
theorem RS (u:TypeId)(x:Operand)(j:Nat):Qh X (n+1) ⟨all,st,hc,bs,i,nx⟩ ⟨d,.field u x j,t,p,af,g⟩ os k s=XY (H7 X.P u (s.ev x) j) fun v=>Xu X n ⟨all,st,hc,bs,i+1,nx⟩ os k (s.putO d v):=Zb _ _ _ _ _ _ _ _ _ _ _ _ _ _ _ _ _ _ rfl (by simp[Qx]) rfl
theorem RO (u:TypeId)(ps:Array (Nat×Operand)):Qh X (n+1) ⟨all,st,hc,bs,i,nx⟩ ⟨d,.build u ps,t,p,af,g⟩ os k s=XY (Fv X.P u (ps.toList.map fun q=>(q.1,s.ev q.2))) fun v=>Xu X n ⟨all,st,hc,bs,i+1,nx⟩ os k (s.putO d v):=Zb _ _ _ _ _ _ _ _ _ _ _ _ _ _ _ _ _ _ rfl (by simp[Qx]) rfl
def uC (st:Bool)(P:Program)(u:TypeId)(m:Nat)(ps:List (Nat×AV)) (h:List AO) (K:AV→List AO→Prop):Prop :=
 if st=true then XY (KP P u m ps h) fun r=>K r.1 r.2 else XY (JL P u m ps) fun v=>K v h
theorem Fk (u:TypeId)(m:Nat)(ps:Array (Nat×Operand)):Qh X (n+1) ⟨all,st,hc,bs,i,nx⟩ ⟨d,.buildSlice u m ps,t,p,af,g⟩ os k s=uC (st i) X.P u m (ps.toList.map fun q=>(q.1,s.ev q.2)) s.h fun v h'=>Xu X n ⟨all,st,hc,bs,i+1,nx⟩ os k (({ s with h:=h' }:AS).putO d v):=by
 rw[Ji (h1:=rfl) (h2:=by simp[Qx]),Jd (h2:=by simp[Qx])];unfold uC;show XY (if st i=true then KP X.P u m (ps.toList.map fun q=>(q.1,s.ev q.2)) s.h else(JL X.P u m (ps.toList.map fun q=>(q.1,s.ev q.2))).map fun v=>(v,s.h)) _=_;by_cases h:st i=true
 ·rw[if_pos h,if_pos h]
 ·rw[if_neg h,if_neg h,BH]
theorem RU (u:TypeId)(x y:Operand):Qh X (n+1) ⟨all,st,hc,bs,i,nx⟩ ⟨d,.store u x y,t,p,af,g⟩ os k s=XY (KU X.P (st i) u (s.ev x) (s.ev y) s.h) fun h'=>Xu X n ⟨all,st,hc,bs,i+1,nx⟩ os k (({ s with h:=h' }:AS).putO d XO):=cz _ _ _ _ _ _ _ _ _ _ _ _ _ _ _ _ _ _ rfl (by simp[Qx]) rfl
theorem I5 (x:Operand):Qh X (n+1) ⟨all,st,hc,bs,i,nx⟩ ⟨d,.nilCheck x,t,p,af,g⟩ os k s=((s.ev x).isPtr=true∧Xu X n ⟨all,st,hc,bs,i+1,nx⟩ os k (s.putO d (s.ev x))):=by
 rw[Ji (h1:=rfl) (h2:=by simp[Qx]),Jd (h2:=by simp[Qx])];show XY (Q4 _ (some (s.ev x,s.h))) _=_;rw[obind_oif,obind_some]
theorem RT (u:TypeId)(x:Operand)(lo hi:Option Operand):Qh X (n+1) ⟨all,st,hc,bs,i,nx⟩ ⟨d,.slice u x lo hi none,t,p,af,g⟩ os k s =
  XY (DZ X.P u (s.ev x) (lo.map s.ev) (hi.map s.ev) none) fun v=>Xu X n ⟨all,st,hc,bs,i+1,nx⟩ os k (s.putO d v):=by
 rw[Ji (h1:=rfl) (h2:=by simp[Qx]),Jd (h2:=by simp[Qx])];show XY (Q4 _ (Option.map _ _)) _=_;rw[obind_oif,BH];simp
theorem NO (u:TypeId)(x:Operand)(lo:Option Operand)(hi mx:Operand):Qh X (n+1) ⟨all,st,hc,bs,i,nx⟩ ⟨d,.slice u x lo (some hi) (some mx),t,p,af,g⟩ os k s =
  XY (DZ X.P u (s.ev x) (lo.map s.ev) (some (s.ev hi)) (some (s.ev mx))) fun v=>Xu X n ⟨all,st,hc,bs,i+1,nx⟩ os k (s.putO d v):=by
 rw[Ji (h1:=rfl) (h2:=by simp[Qx]),Jd (h2:=by simp[Qx])];show XY (Q4 _ (Option.map _ _)) _=_;rw[obind_oif,BH];simp
theorem og (x y z:Operand):Qh X (n+1) ⟨all,st,hc,bs,i,nx⟩ ⟨d,.pick x y z,t,p,af,g⟩ os k s=(match s.ev x with
  | .bool true=>Xu X n ⟨all,st,hc,bs,i+1,nx⟩ os k (s.putO d (s.ev y))
  | .bool false=>Xu X n ⟨all,st,hc,bs,i+1,nx⟩ os k (s.putO d (s.ev z))
  |_=>False):=by
 rw[Ji (h1:=rfl) (h2:=by simp[Qx]),Jd (h2:=by simp[Qx])];simp only[QU];cases hx:s.ev x with
 |bool b=>cases b <;> simp
 |_=>simp
theorem Uz (x:Operand)(j:Nat):Qh X (n+1) ⟨all,st,hc,bs,i,nx⟩ ⟨d,.extract x j,t,p,af,g⟩ os k s=(match s.ev x with
  | .tup l=>j<l.length∧Xu X n ⟨all,st,hc,bs,i+1,nx⟩ os k (s.putO d (l.getD j .any))
  |_=>False):=by
 rw[Ji (h1:=rfl) (h2:=by simp[Qx]),Jd (h2:=by simp[Qx])];simp only[QU];cases hx:s.ev x <;> simp
theorem I3 (f:FuncId)(caps:Array Operand):Qh X (n+1) ⟨all,st,hc,bs,i,nx⟩ ⟨d,.makeFunc (.func f) #[] caps,t,p,af,g⟩ os k s=Xu X n ⟨all,st,hc,bs,i+1,nx⟩ os k (s.putO d (.fn f (caps.toList.map s.ev))):=by
 rw[Ji (h1:=rfl) (h2:=by simp[Qx]),Jd (h2:=by simp[Qx])];simp only[QU];rw[show iU f ((#[]:Array Operand).toList.map s.ev) (caps.toList.map s.ev)=some (.fn f (caps.toList.map s.ev))from rfl];simp
theorem I4 (f:FuncId)(r:Operand):Qh X (n+1) ⟨all,st,hc,bs,i,nx⟩ ⟨d,.makeFunc (.func f) #[r] #[],t,p,af,g⟩ os k s=Xu X n ⟨all,st,hc,bs,i+1,nx⟩ os k (s.putO d (.mfn f (s.ev r))):=by
 rw[Ji (h1:=rfl) (h2:=by simp[Qx]),Jd (h2:=by simp[Qx])];simp only[QU];rw[show iU f ((#[r]:Array Operand).toList.map s.ev) ((#[]:Array Operand).toList.map s.ev)=some (.mfn f (s.ev r))from rfl];simp
theorem jh (x:Operand)(u:TypeId):Qh X (n+1) ⟨all,st,hc,bs,i,nx⟩ ⟨d,.call { callee:=.builtin .len,args:=#[x],argTypes:=#[u] },t,p,af,g⟩ os k s =
  XY (MP X.P u (s.ev x)) fun v=>Xu X n ⟨all,st,hc,bs,i+1,nx⟩ os k (s.putO d v):=Zb _ _ _ _ _ _ _ _ _ _ _ _ _ _ _ _ _ _ rfl (by simp[Qx]) rfl
theorem jj (x y:Operand)(us:Array TypeId):Qh X (n+1) ⟨all,st,hc,bs,i,nx⟩ ⟨d,.call { callee:=.builtin .min,args:=#[x,y],argTypes:=us },t,p,af,g⟩ os k s =
  XY (Yd (s.ev x) (s.ev y)) fun v=>Xu X n ⟨all,st,hc,bs,i+1,nx⟩ os k (s.putO d v):=Zb _ _ _ _ _ _ _ _ _ _ _ _ _ _ _ _ _ _ rfl (by simp[Qx]) rfl
theorem ji (x y:Operand)(us:Array TypeId):Qh X (n+1) ⟨all,st,hc,bs,i,nx⟩ ⟨d,.call { callee:=.builtin .max,args:=#[x,y],argTypes:=us },t,p,af,g⟩ os k s =
  XY (Yc (s.ev x) (s.ev y)) fun v=>Xu X n ⟨all,st,hc,bs,i+1,nx⟩ os k (s.putO d v):=Zb _ _ _ _ _ _ _ _ _ _ _ _ _ _ _ _ _ _ rfl (by simp[Qx]) rfl
theorem NM (x y:Operand)(u:TypeId):Qh X (n+1) ⟨all,st,hc,bs,i,nx⟩ ⟨d,.call { callee:=.builtin .append,args:=#[x,y],argTypes:=#[u,u] },t,p,af,g⟩ os k s =
  XY (QG X.P u (s.ev x) (s.ev y) s.h) fun r=>Xu X n ⟨all,st,hc,bs,i+1,nx⟩ os k (({ s with h:=r.2 }:AS).putO d r.1):=by
 rw[Ji (h1:=rfl) (h2:=by simp[Qx]),Jd (h2:=by simp[Qx])];show XY (if u=u then _ else _) _=_;rw[if_pos rfl]
theorem W6 (x y:Operand)(u u':TypeId):Qh X (n+1) ⟨all,st,hc,bs,i,nx⟩ ⟨d,.call { callee:=.builtin .copy,args:=#[x,y],argTypes:=#[u,u'] },t,p,af,g⟩ os k s =
  XY (Fe X.P u (s.ev x) (s.ev y) s.h) fun r=>Xu X n ⟨all,st,hc,bs,i+1,nx⟩ os k (({ s with h:=r.2 }:AS).putO d r.1):=by
 rw[Ji (h1:=rfl) (h2:=by simp[Qx]),Jd (h2:=by simp[Qx])];rfl
theorem RN (u:TypeId):Qh X (n+1) ⟨all,st,hc,none,i,nx⟩ ⟨d,.alloc u,t,p,af,g⟩ os k s =
  XY (Ax X.P none u s.h) fun r=>Xu X n ⟨all,st,hc,none,i+1,nx⟩ os k (({ s with h:=r.2 }:AS).putO d r.1):=CB _ _ _ _ _ _ _ _ _ _ _ rfl
theorem jg (u:TypeId)(x:Operand):Qh X (n+1) ⟨all,st,hc,none,i,nx⟩ ⟨d,.box u x,t,p,af,g⟩ os k s =
  XY (MK none (s.ev x) s.h) fun r=>Xu X n ⟨all,st,hc,none,i+1,nx⟩ os k (({ s with h:=r.2 }:AS).putO d r.1):=CB _ _ _ _ _ _ _ _ _ _ _ rfl
theorem W8 (u:TypeId)(x y:Operand):Qh X (n+1) ⟨all,st,hc,none,i,nx⟩ ⟨d,.makeSlice u x y,t,p,af,g⟩ os k s =
  XY (DM X.P none u (s.ev x) (s.ev y) s.h) fun r=>Xu X n ⟨all,st,hc,none,i+1,nx⟩ os k (({ s with h:=r.2 }:AS).putO d r.1):=CB _ _ _ _ _ _ _ _ _ _ _ rfl
variable (b:Nat)
theorem NL (u:TypeId):Qh X (n+1) ⟨all,st,hc,some b,i,nx⟩ ⟨d,.alloc u,t,p,af,g⟩ os k s =
  (s.h[nx]?=some .unborn∧XY (Ax X.P (some nx) u s.h) fun r=>Xu X n ⟨all,st,hc,some b,i+1,nx+1⟩ os k (({ s with h:=r.2 }:AS).putO d r.1)):=Na _ _ _ _ _ _ _ _ _ _ _ _ rfl rfl
variable (n0:Nat) (hid:List Nat) (sl:List AV) (tm:List (Nat×AV)) (h:List AO)
theorem rT (t:Nat):AS.ev ⟨n0,hid,sl,tm,h⟩ (.tmp t)=if t<n0 then sl.getD t .any else XA tm t:=nrfl rfl
theorem gt (s:AS)(v:Value):s.ev (.const v)=fK v:=nrfl rfl
theorem mX (s:AS)(f:FuncId):s.ev (.func f)=.fn f []:=nrfl rfl
theorem nO (t:Nat):AS.get ⟨n0,hid,sl,tm,h⟩ t=if t<n0 then sl.getD t .any else XA tm t:=nrfl rfl
theorem aN (i:Nat)(v:AV):AS.putO ⟨n0,hid,sl,tm,h⟩ (some i) v=if i<n0 then⟨n0,hid,sl.set i v,tm,h⟩else⟨n0,hid,sl,(i,v) :: tm,h⟩:=nrfl rfl
theorem aM (s:AS)(v:AV):s.putO none v=s:=nrfl rfl
theorem nc (i:Nat)(v:AV):AS.fix ⟨n0,hid,sl,tm,h⟩ i v=if i<n0 then⟨n0,hid,sl.set i v,tm,h⟩else⟨n0,hid,sl,Mn tm i v,h⟩:=nrfl rfl
theorem mN:AS.clr ⟨n0,[],sl,tm,h⟩=⟨n0,[],sl,[],h⟩:=by simp[AS.clr]
def HP (hid:List Nat):List (Nat×AV)→List (Nat×AV)
 | []=>[]
 | (i,v) :: l=>if hid.contains i=true then(i,v) :: HP hid l else HP hid l
theorem mM (j:Nat)(hid':List Nat):AS.clr ⟨n0,j :: hid',sl,tm,h⟩=⟨n0,j :: hid',sl,HP (j :: hid') tm,h⟩:=by
 unfold AS.clr;congr 1;show tm.filter (fun p=>(j :: hid').contains p.1)=_
 induction tm with
 |nil=>rfl
 |cons x l ih =>
  obtain⟨i,v⟩:=x;simp only[List.filter_cons,HP,ih]
def Fz (hcall:Bool):List Oper→Nat
 | []=>0
 |o :: os=>(if Qx hcall o.op=2 then 1 else 0)+Fz hcall os
theorem YI (hcall:Bool)(ops:Array Oper):E3 hcall ops=Fz hcall ops.toList:=by
 unfold E3
 induction ops.toList with
 |nil=>rfl
 |cons o os ih =>
  simp only[List.filter_cons,Fz];by_cases hc:Qx hcall o.op=2
  ·simp[hc,ih];omega
  ·simp[hc,ih]
theorem YJ (hcall:Bool)(ops:Array Oper):E6 hcall ops ⟨n0,hid,sl,tm,h⟩ =
  ⟨n0,hid,sl,(AS.clr ⟨n0,hid,sl,tm,h⟩).tm,h ++ List.replicate (Fz hcall ops.toList) .unborn⟩:=by
 unfold E6;rw[YI];rfl
end
theorem mR (k:IntKind)(n:Int):fK (.int k n)=.int k n:=nrfl rfl
theorem fL (b:Bool):fK (.bool b)=.bool b:=nrfl rfl
theorem mS:fK (.pointer none)=.nil:=nrfl rfl
theorem rD:fK (.slice none 0 0)=.sl 0 0 (fun _=>.any) true:=nrfl rfl
theorem rC:fK .nilFunc=.nilfn:=nrfl rfl
def QL {α:Type}(e:α→AV)(d:α)(l:List α):Nat→AV:=fun j=>e (l.getD j d)
def Qs {α:Type}(e:α→AV)(d:α)(l:List α):AV:=.sl l.length l.length (QL e d l) false
def I (n:Int):AV:=.int .i64 n
def X8 (l:List Int):AV:=Qs I 0 l
def Cf (l:List Bool):AV:=Qs AV.bool false l
def CP (l:List (List Int)):AV:=Qs X8 [] l
def XD {α:Type}(e:α→List AV)(s:Nat)(d:α)(l:List α):Nat→AV:=fun j=>(e (l.getD (j/s) d)).getD (j%s) .any
def jX {α:Type}(e:α→List AV)(s:Nat)(d:α)(l:List α):AV:=.sl l.length (l.length*s) (XD e s d l) false
theorem KS {α:Type}(e:α→List AV)(s:Nat)(d:α)(l:List α)(i j:Nat)(hj:j<s):XD e s d l (i*s+j)=(e (l.getD i d)).getD j .any:=by
 unfold XD;rw[Nat.mul_comm,Nat.mul_add_div (by omega),Nat.mul_add_mod,Nat.div_eq_of_lt hj,Nat.mod_eq_of_lt hj,Nat.add_zero]
theorem Z7 {α:Type}(e:α→List AV)(s:Nat)(d:α)(l:List α)(i:Nat)(hj:0<s):XD e s d l (i*s)=(e (l.getD i d)).getD 0 .any:=by
 simpa using KS e s d l i 0 hj
theorem AL {α:Type}(e:α→AV)(d:α)(l:List α)(j:Nat):QL e d l j=e (l.getD j d):=nrfl rfl
theorem ua (n:Int):I n=.int .i64 n:=nrfl rfl
theorem Xb (n:Int):Settled (I n):=Jp _ _
theorem Et {α:Type}{e:α→AV}{d:α}{l:List α}(h:∀a,Settled (e a)):Settled (Qs e d l):=J3 fun _ _=>h _
theorem Xc (l:List Int):Settled (X8 l):=Et Xb
theorem N8 (l:List Bool):Settled (Cf l):=Et X5
theorem JA (l:List (List Int)):Settled (CP l):=Et Xc
theorem Xe {l:List AV}(hl:∀ a∈l,Settled a)(j:Nat):Settled (l.getD j .any):=by
 rw[List.getD_eq_getElem?_getD];cases hx:l[j]? with
 |none=>exact Jo
 |some x=>exact hl _ (List.mem_of_getElem? hx)
theorem Z5 {α:Type}{e:α→List AV}{s:Nat}{d:α}{l:List α}(h:∀a,∀x∈e a,Settled x):Settled (jX e s d l):=J3 fun _ _=>Xe (h _) _
theorem eD {α:Type}(e:α→AV)(d:α)(l m:List α):Qf (l.length*1) (QL e d l) (m.length*1) (QL e d m)=QL e d (l ++ m):=by
 funext j;unfold Qf QL;simp only[Nat.mul_one,List.getD_eq_getElem?_getD];by_cases h1:j<l.length
 ·rw[if_pos h1,List.getElem?_append_left h1]
 ·rw[if_neg h1,List.getElem?_append_right (by omega)]
  by_cases h2:j<l.length+m.length
  ·rw[if_pos h2]
  ·rw[if_neg h2,List.getElem?_eq_none (by omega),List.getElem?_eq_none (by omega)]
theorem ez {α:Type}(e:α→AV)(d:α)(l:List α)(x:α):Qf (l.length*1) (QL e d l) (1*1) (Xf [e x])=QL e d (l ++ [x]):=by
 rw[←eD e d l [x]];funext j;unfold Qf Xf QL;simp only[List.length_cons,List.length_nil,Nat.mul_one,Nat.zero_add];by_cases h1:j<l.length
 ·rw[if_pos h1,if_pos h1]
 ·by_cases h2:j<l.length+1
  ·obtain rfl:j=l.length:=by omega
   simp
  ·rw[if_neg h1,if_neg h2,if_neg h1,if_neg h2]
theorem pr {α:Type}(e:α→AV)(d:α)(l:List α)(i:Nat)(x:α)(h:i<l.length):DS (QL e d l) i (e x)=QL e d (l.set i x):=by
 funext j;unfold DS QL;simp only[List.getD_eq_getElem?_getD];by_cases hj:j=i
 ·subst hj;simp[h]
 ·rw[if_neg hj,List.getElem?_set_ne (Ne.symm hj)]
theorem pq (l:List AV)(i:Nat)(a:AV)(h:i<l.length):DS (Xf l) i a=Xf (l.set i a):=by
 funext j;unfold DS Xf;simp only[List.getD_eq_getElem?_getD];by_cases hj:j=i
 ·subst hj;simp[h]
 ·rw[if_neg hj,List.getElem?_set_ne (Ne.symm hj)]
structure Fn (P:Program)(f:FuncId)(args:List AV)(r:AV):Prop where
 call:PureCall P f args r
 settled:∀a∈args,Settled a
theorem X1 {X:Env}{M:Md}{o:Oper}{g:FuncId}{caps args as':List AV}{K:AS→Prop}{s:AS}{r:AV}(h:Fn X.P g as' r)(ha:(args ++ caps).map AV.loose=as') (hK:K (s.putO o.dst r)) :
  FU X M o (.fn g caps) args K s:=by
 subst ha;exact⟨r,s.h,⟨.inl g,args ++ caps,rfl,.inl ⟨_,Ii _,h.call,h.settled,rfl⟩⟩,hK⟩
theorem X0 {X:Env}{M:Md}{o:Oper}{g:FuncId}{caps args as':List AV}{K:AS→Prop}{s:AS}{r:AV}(h:Fn X.P g as' r)(ha:WeakL (args ++ caps) as') (hK:K (s.putO o.dst r)) :
  FU X M o (.fn g caps) args K s :=
 ⟨r,s.h,⟨.inl g,args ++ caps,rfl,.inl ⟨_,ha,h.call,h.settled,rfl⟩⟩,hK⟩
theorem pB {n m m':Nat}{f f':Nat→AV}{t:Bool}(hm:m'≤m)(hf:∀j,j<m'→f j=f' j):Weak (.sl n m f t) (.sl n m' f' false):=fun c v h=>by
 cases h with
 |sl b base _ _ cap _ _ us hS hc hr hn ht=>exact .sl b base n m' cap f' false us hS (fun j hj=>hc j (by omega)) (fun j hj=>by rw[←hf j hj];exact hr j (by omega)) hn (by simp)
 |slz a cap _ _ ht =>
  obtain rfl:m'=0:=by omega
  exact .slz _ _ _ _ (by simp)
theorem Nl {X:Env}{M:Md}{o:Oper}{g:FuncId}{caps args as':List AV}{K:AS→Prop}{s:AS}{r:AV}(h:Fn X.P g as' r)(hst:M.strict M.i=false)(ha:SeesL s.h ((args ++ caps).map AV.loose) as') (hf:lF r) (hK:K (s.putO o.dst r)) :
  FU X M o (.fn g caps) args K s :=
 ⟨r,s.h,⟨.inl g,args ++ caps,rfl,.inr (.inl ⟨hst,as',ha,h.call,hf,rfl⟩)⟩,hK⟩
theorem XJ {X:Env}{M:Md}{o:Oper}{g:FuncId}{caps args as':List AV}{K:AS→Prop}{s:AS}{r:AV}{H':List AO}(hb:M.hcall=true)(h:HCall X.P g as' s.h r H')(hcon:JP s.h H')
  (hu:∀id:Nat,s.h[id]?≠some .unborn) (ha:WeakL (args ++ caps) as') (hK:K (({ s with h:=H' }:AS).putO o.dst r)):FU X M o (.fn g caps) args K s:=by
 refine⟨r,H',⟨.inl g,args ++ caps,rfl,.inr (.inr ⟨hb,as',ha,fun _=>H',fun h2 ho=>?_,rfl,hcon,fun h2 id ob _ hid=>absurd hid (hu id),fun id hid=>absurd hid (hu id)⟩)⟩,hK⟩;have:h2=s.h:=by
  apply List.ext_getElem?;intro i;exact ho i (hu i)
 rw[this];exact h
theorem Fn.intro {P:Program}{f:FuncId}{fn:Func}{body:Code}(he:BL P f)(hf:P.funcs[f]?=some fn)(hb:fn.body=some body)(hm:P.follows .mixedOrders=true){args:List AV}{r:AV}
  (n0:Nat) (hid str hcs:List Nat) (hok:QC fn.ntmps str hcs body=true) (hlen:args.length≤fn.ntmps) (hs:∀a∈args,Settled a)
  (h:Run (Ju P fn str hcs r) [.code body] (AS.start n0 hid args [])):Fn P f args r :=
 ⟨PureCall.intro he hf hb hm n0 hid str hcs hok hlen h,hs⟩
theorem E9 {N:Nat}{c c':Ctx}{a:Act}{s:AS}(hst:St N c a s)(hx:Ext c c')(hr:HRel c'){i:Nat}{v:AV}(hv:Rep c' (a.tmps.getD i undef) v):St N c' a (({ s with h:=c'.H }:AS).put i v):=by
 refine⟨hst.size,hst.defers,fun j=>?_,by simp,hr⟩;rcases VN ({ s with h:=c'.H }:AS) i j v with⟨h1,h2⟩ |h1 | ⟨h1,h2⟩
 ·rw[h1,h2];exact hv
 ·rw[h1];exact .any _
 ·rw[h2];exact hx.rep hst.hrel (hst.slots j)
theorem Kk {m:Nat}{s:AS}(i es:Nat)(f:Nat→AV){M:Nat}{g:Nat→AV}(hi:s.get i=.sl 0 M g true) :
  Sub m s (({ s with h:=s.h ++ [.row 0 0 f] }:AS).put i (.osl s.h.length 0 es 0 0)):=by
 intro N c a hst;have hH:=hst.heap;have hset:(c.H ++ [AO.row 0 0 f])[c.H.length]?=some (.row 0 0 f):=by simp
 have hoth:∀i,i≠c.H.length→(c.H ++ [AO.row 0 0 f])[i]?=c.H[i]?:=fun i hi=>by
  have:=ZZ (nid:=none) (h:=c.H) (o:=.row 0 0 f) i (by simpa [Qz]using hi)
  simpa [Kb]using this
 obtain⟨g1,g2⟩:=GW hst.hrel (id:=c.H.length) (ver:=0) (w:=c.w) hset hoth rfl (.inl (by simp));refine⟨⟨c.w,c.S,Jy c.γ c.H.length none,c.H ++ [.row 0 0 f]⟩,rfl,g2.toB m,?_⟩;have hv:=hst.slots i;rw[hi]at hv;have:=E9 hst g2 g1 (i:=i) (v:=.osl c.H.length 0 es 0 0) (by
  have hinf:inf (c.H ++ [AO.row 0 0 f]) c.H.length=some 0:=by simp[inf,AO.info]
  cases hq:a.tmps.getD i undef with
  |slice b n cap =>
   rw[hq]at hv;cases hv with
   |sl _ _ _ _ _ _ _ _ _ _ _ _ ht=>have:=ht rfl;subst this;exact .oslz _ _ _ _ _ hinf
   |slz _ _ _ _ ht=>have:=ht rfl;subst this;exact .oslz _ _ _ _ _ hinf
  |_=>rw[hq]at hv;cases hv)
 simp only[hH]at this ⊢;exact this
theorem SS {m:Nat}{s:AS}(i:Nat){id ver es off n k M:Nat}{f:Nat→AV}(hi:s.get i=.osl id ver es off n)(ho:s.h[id]?=some (.con ver k f)) (hle:off+M≤k) (hM:n=0→M=0) :
  Sub m s (s.put i (.sl n M (fun j=>f (off+j)) false)):=by
 intro N c a hst;have hH:=hst.heap;refine⟨c,rfl,(Ext.refl c).toB m,?_⟩;rw[←hH]at ho;have hinf:inf c.H id=some ver:=by simp[inf,ho,AO.info]
 have hns:¬stale c.H id ver:=by
  rintro(⟨v',hi,hlt⟩ |hd)
  ·rw[hinf]at hi;cases hi;omega
  ·simp[inf,hd,AO.info]at hinf
 have hv:=hst.slots i;rw[hi]at hv;have hz:n=0→∀b cap,Rep c (.slice b 0 cap) (.sl n M (fun j=>f (off+j)) false):=by
  rintro hn b cap;rw[hn,hM hn];exact .slz _ _ _ _ (by simp)
 have:=E9 hst (Ext.refl c) hst.hrel (i:=i) (v:=.sl n M (fun j=>f (off+j)) false) (by
  generalize a.tmps.getD i undef=q at hv;cases hv with
  |osl _ _ _ _ _ cap b sz hi hg hn hcap hmx =>
   rcases hst.hrel.con id ver k f ho with⟨h1,_⟩ | ⟨b',sz',cs,el,fr,h1,h2,h3,h4,h5,h6⟩
   ·rw[h1]at hg;cases hg
   ·rw[h1]at hg;cases hg
    refine .sl b off n M cap _ false (fun j=>cs.getD (off+j) undef) h5 (fun j hj=>?_) (fun j hj=>h6 _ (by omega)) hn (by simp);have hlt:off+j<cs.size:=by omega
    rw[cell_of_row c.w b _ cs el fr h2];simp[hlt,Array.getD]
  |oslz _ _ _ _ b hi=>exact hz rfl b 0
  |oslOld _ _ _ _ _ b cap hn hs=>exact absurd hs hns
  |oslzOld _ _ _ _ b hs=>exact absurd hs hns)
 rwa[show({ s with h:=c.H }:AS)=s by rw[hH]]at this
theorem Xy {m:Nat}{s:AS}(i:Nat){id ver off k:Nat}{f:Nat→AV}(hi:s.get i=.ref id ver off)(ho:s.h[id]?=some (.con ver k f)) (hk:0<k) :
  Sub m s (s.put i (.ptr k f off)):=by
 intro N c a hst;have hH:=hst.heap;refine⟨c,rfl,(Ext.refl c).toB m,?_⟩;rw[←hH]at ho;have hinf:inf c.H id=some ver:=by simp[inf,ho,AO.info]
 have hns:¬stale c.H id ver:=by
  rintro(⟨v',hi,hlt⟩ |hd)
  ·rw[hinf]at hi;cases hi;omega
  ·simp[inf,hd,AO.info]at hinf
 have hv:=hst.slots i;rw[hi]at hv;have:=E9 hst (Ext.refl c) hst.hrel (i:=i) (v:=.ptr k f off) (by
  generalize a.tmps.getD i undef=q at hv;cases hv with
  |ref _ _ _ b sz hi hg =>
   rcases hst.hrel.con id ver k f ho with⟨h1,h2⟩ | ⟨b',sz',cs,el,fr,h1,h2,h3,h4,h5,h6⟩
   ·omega
   ·rw[h1]at hg;cases hg
    have:=Rep.ptr (c:=c) b 0 k off f (fun j=>cs.getD j undef) h5 (fun j hj=>Ze h2 (by omega) j hj) h6;rwa[Nat.zero_add]at this
  |refOld _ _ _ b hs=>exact absurd hs hns)
 rwa[show({ s with h:=c.H }:AS)=s by rw[hH]]at this
end
end Go.Ab
namespace Go.Ab
open Go Go.RowKit
noncomputable section
@[congr] theorem obind_congr {α:Type}{o o':Option α}{K:α→Prop}(h:o=o'):XY o K=XY o' K:=by rw[h]
@[congr] theorem vc_congr {X:Env}{n:Nat}{k:List Item}{s s':AS}(h:s=s'):vc X n k s=vc X n k s':=by rw[h]
@[congr] theorem vcOps_congr {X:Env}{n:Nat}{M:Md}{os:List Oper}{k:List Item}{s s':AS}(h:s=s'):Xu X n M os k s=Xu X n M os k s':=by rw[h]
@[congr] theorem vcOp_congr {X:Env}{n:Nat}{M:Md}{o:Oper}{os:List Oper}{k:List Item}{s s':AS}(h:s=s'):Qh X n M o os k s=Qh X n M o os k s':=by rw[h]
@[congr] theorem runL_congr {X:Env}{k:List Item}{s s':AS}(h:s=s'):WR X k s=WR X k s':=by rw[h]
@[congr] theorem run_congr {X:Env}{k:List Item}{s s':AS}(h:s=s'):Run X k s=Run X k s':=by rw[h]
@[congr] theorem retOk_congr {X:Env}{s s':AS}(h:s=s'):RetOk X s=RetOk X s':=by rw[h]
@[congr] theorem retE_congr {X:Env}{s s':AS}(h:s=s'):RetE X s=RetE X s':=by rw[h]
@[congr] theorem callL_congr {X:Env}{M:Md}{o:Oper}{f f':AV}{args args':List AV}{K:AS→Prop}{s s':AS}(h1:f=f')(h2:args=args')(h3:s=s'):FU X M o f args K s=FU X M o f' args' K s':=by rw[h1,h2,h3]
@[congr] theorem drawS_congr {b:Bool}{ops:Array Oper}{s s':AS}(h:s=s'):E6 b ops s=E6 b ops s':=by rw[h]
def BQ (ops:Array Oper)(j:Nat):Option Nat:=(ops[j]?).bind (·.dst)
@[congr] theorem dstAt_congr {ops:Array Oper}{j j':Nat}(h:j=j'):BQ ops j=BQ ops j':=by rw[h]
theorem U5 (o:Oper)(l:List Oper):BQ (o :: l).toArray 0=o.dst:=by simp[BQ]
theorem U4 (o:Oper)(l:List Oper)(j:Nat):BQ (o :: l).toArray (j+1)=BQ l.toArray j:=by simp[BQ]
def KM (b:Bool)(T F:Prop):Prop:=(b=true→T)∧(b=false→F)
@[congr] theorem guardP_congr {b b':Bool}{T F:Prop}(h:b=b'):KM b T F=KM b' T F:=by rw[h]
theorem Qg {b:Bool}{T F:Prop}(h1:b=true→T)(h2:b=false→F):KM b T F:=⟨h1,h2⟩
theorem HU (T F:Prop):KM true T F=T:=by simp[KM]
theorem Dk (T F:Prop):KM false T F=F:=by simp[KM]
theorem LK (p:Prop) [Decidable p] (T F:Prop):KM (decide p) T F=((p→T)∧(¬p→F)):=by simp[KM]
theorem HS (p:Prop) [Decidable p] (T F:Prop):KM (!decide p) T F=((¬p→T)∧(p→F)):=by simp[KM]
def tT (a:AV)(T F:Prop):Prop:=match a with | .bool b=>KM b T F | .abool=>T∧F |_=>False
@[congr] theorem cAt_congr {a a':AV}{T F:Prop}(h:a=a'):tT a T F=tT a' T F:=by rw[h]
theorem Hb (T F:Prop):tT .abool T F=(T∧F):=nrfl rfl
theorem Lh (b:Bool)(T F:Prop):tT (.bool b) T F=KM b T F:=nrfl rfl
def lm (a:AV)(T F U:Prop):Prop:=match a with | .bool b=>KM b T F | .tup []=>U |_=>False
@[congr] theorem gAt_congr {a a':AV}{T F U:Prop}(h:a=a'):lm a T F U=lm a' T F U:=by rw[h]
theorem Ro (b:Bool)(T F U:Prop):lm (.bool b) T F U=KM b T F:=nrfl rfl
theorem Nx (T F U:Prop):lm XO T F U=U:=nrfl rfl
def mT (o:Option Nat)(K:Nat→Prop):Prop:=match o with |some e=>K e |none=>False
@[congr] theorem dAt_congr {o o':Option Nat}{K:Nat→Prop}(h:o=o'):mT o K=mT o' K:=by rw[h]
theorem R6 (e:Nat)(K:Nat→Prop):mT (some e) K=K e:=nrfl rfl
def sM (a:AV)(T F:Prop):Prop:=match a with | .bool true=>T | .bool false=>F |_=>False
@[congr] theorem pAt_congr {a a':AV}{T F:Prop}(h:a=a'):sM a T F=sM a' T F:=by rw[h]
theorem RW (T F:Prop):sM (.bool true) T F=T:=nrfl rfl
theorem NP (T F:Prop):sM (.bool false) T F=F:=nrfl rfl
def lz (a:AV)(j:Nat)(K:AV→Prop):Prop:=match a with | .tup l=>j<l.length∧K (l.getD j .any) |_=>False
@[congr] theorem xAt_congr {a a':AV}{j:Nat}{K:AV→Prop}(h:a=a'):lz a j K=lz a' j K:=by rw[h]
theorem Te (a:AV)(l:List AV)(K:AV→Prop):lz (.tup (a :: l)) 0 K=K a:=by simp[lz]
theorem Td (a:AV)(l:List AV)(j:Nat)(K:AV→Prop):lz (.tup (a :: l)) (j+1) K=lz (.tup l) j K:=by simp[lz]
def uH (o:Option (List Item)) (K:List Item→Prop):Prop:=match o with |some k=>K k |none=>False
@[congr] theorem eAt_congr {o o':Option (List Item)} {K:List Item→Prop} (h:o=o'):uH o K=uH o' K:=by rw[h]
theorem Ra (k:List Item)(K:List Item→Prop):uH (some k) K=K k:=nrfl rfl
theorem kJ (X:Env)(n:Nat)(k:List Item)(s:AS)(o:Operand)(a b:Code):vc X (n+1) (.code (.cond o a b) :: k) s=tT (s.ev o) (vc X n (.code a :: k) s) (vc X n (.code b :: k) s):=by
 rw[pv];unfold tT KM;cases s.ev o <;> rfl
theorem kK (X:Env)(n:Nat)(k:List Item)(s:AS)(i:Nat):vc X (n+1) (.code (.exit i) :: k) s=uH (exitTo i k) fun k'=>vc X n k' s:=by
 rw[py];unfold uH;cases exitTo i k <;> rfl
theorem jk (X:Env)(n:Nat)(k:List Item)(s:AS)(all:Array Oper)(st:Nat→Bool)(hc:Bool)(bs:Option Nat)(i nx:Nat)(os:List Oper)(d:Option Nat)(t:TypeId)(p:String)(af:Array Edge)(g:Option (Nat×Bool)) (x y z:Operand) :
  Qh X (n+1) ⟨all,st,hc,bs,i,nx⟩ ⟨d,.pick x y z,t,p,af,g⟩ os k s=sM (s.ev x) (Xu X n ⟨all,st,hc,bs,i+1,nx⟩ os k (s.putO d (s.ev y))) (Xu X n ⟨all,st,hc,bs,i+1,nx⟩ os k (s.putO d (s.ev z))):=by
 rw[og];unfold sM;cases hx:s.ev x with
 |bool b=>cases b <;> rfl
 |_=>rfl
theorem RP (X:Env)(n:Nat)(k:List Item)(s:AS)(all:Array Oper)(st:Nat→Bool)(hc:Bool)(bs:Option Nat)(i nx:Nat)(os:List Oper)(d:Option Nat)(t:TypeId)(p:String)(af:Array Edge)(g:Option (Nat×Bool)) (x:Operand) (j:Nat) :
  Qh X (n+1) ⟨all,st,hc,bs,i,nx⟩ ⟨d,.extract x j,t,p,af,g⟩ os k s=lz (s.ev x) j fun v=>Xu X n ⟨all,st,hc,bs,i+1,nx⟩ os k (s.putO d v):=by
 rw[Uz];unfold lz;cases hx:s.ev x <;> rfl
theorem cD (X:Env)(n:Nat)(k:List Item)(s:AS)(all:Array Oper)(st:Nat→Bool)(hc:Bool)(bs:Option Nat)(i nx:Nat)(os:List Oper)
  (d:Option Nat) (op:Op) (t:TypeId) (p:String) (af:Array Edge) (j:Nat):Xu X (n+1) ⟨all,st,hc,bs,i,nx⟩ (⟨d,op,t,p,af,some (j,true)⟩ :: os) k s =
 mT (BQ all j) fun e=>lm (s.get e) (Qh X n ⟨all,st,hc,bs,i,nx⟩ ⟨d,op,t,p,af,some (j,true)⟩ os k (s.fix e (.bool true)))
  (Xu X n (Md.next ⟨all,st,hc,bs,i,nx⟩ ⟨d,op,t,p,af,some (j,true)⟩) os k ((s.fix e (.bool false)).putO d XO))
  (Xu X n (Md.next ⟨all,st,hc,bs,i,nx⟩ ⟨d,op,t,p,af,some (j,true)⟩) os k (s.putO d XO)):=by
 rw[Ih];show(match BQ all j with |some e=>_ |none=>False)=_;unfold mT;cases BQ all j with
 |none=>rfl
 |some e =>
  simp only;cases hx:s.get e with
  |bool b=>simp only[lm,KM];simp
  |tup l=>cases l <;> rfl
  |_=>rfl
theorem cC (X:Env)(n:Nat)(k:List Item)(s:AS)(all:Array Oper)(st:Nat→Bool)(hc:Bool)(bs:Option Nat)(i nx:Nat)(os:List Oper)
  (d:Option Nat) (op:Op) (t:TypeId) (p:String) (af:Array Edge) (j:Nat):Xu X (n+1) ⟨all,st,hc,bs,i,nx⟩ (⟨d,op,t,p,af,some (j,false)⟩ :: os) k s =
 mT (BQ all j) fun e=>lm (s.get e) (Xu X n (Md.next ⟨all,st,hc,bs,i,nx⟩ ⟨d,op,t,p,af,some (j,false)⟩) os k ((s.fix e (.bool true)).putO d XO))
  (Qh X n ⟨all,st,hc,bs,i,nx⟩ ⟨d,op,t,p,af,some (j,false)⟩ os k (s.fix e (.bool false)))
  (Xu X n (Md.next ⟨all,st,hc,bs,i,nx⟩ ⟨d,op,t,p,af,some (j,false)⟩) os k (s.putO d XO)):=by
 rw[Ih];show(match BQ all j with |some e=>_ |none=>False)=_;unfold mT;cases BQ all j with
 |none=>rfl
 |some e =>
  simp only;cases hx:s.get e with
  |bool b=>simp only[lm,KM];simp
  |tup l=>cases l <;> rfl
  |_=>rfl
theorem T6 (X:Env)(n:Nat)(k:List Item)(s:AS)(all:Array Oper)(st:Nat→Bool)(hc:Bool)(i nx:Nat)(o:Oper)(os:List Oper) :
  Xu X n (Md.next ⟨all,st,hc,none,i,nx⟩ o) os k s=Xu X n ⟨all,st,hc,none,i+1,nx⟩ os k s:=nrfl rfl
theorem T7 (X:Env)(n:Nat)(k:List Item)(s:AS)(all:Array Oper)(st:Nat→Bool)(hc:Bool)(b i nx:Nat)(o:Oper)(os:List Oper) :
  Xu X n (Md.next ⟨all,st,hc,some b,i,nx⟩ o) os k s=if Qx hc o.op=2 then Xu X n ⟨all,st,hc,some b,i+1,nx+1⟩ os k s else Xu X n ⟨all,st,hc,some b,i+1,nx⟩ os k s:=by
 rw[aD]
 split <;> simp[*]
theorem T5 (X:Env)(n:Nat)(k:List Item)(s:AS)(all:Array Oper)(st:Nat→Bool)(hc:Bool)(bs:Option Nat)(i nx:Nat)(os:List Oper)
  (d:Option Nat) (op:Op) (t:TypeId) (p:String) (af:Array Edge):Xu X (n+1) ⟨all,st,hc,bs,i,nx⟩ (⟨d,op,t,p,af,none⟩ :: os) k s=Qh X n ⟨all,st,hc,bs,i,nx⟩ ⟨d,op,t,p,af,none⟩ os k s:=nrfl rfl
theorem YN (i j:Nat)(k:List Item):exitTo i (.inBlock j :: k)=if i=j then some k else exitTo i k:=by
 simp only[exitTo,beq_iff_eq]
 first |rfl | (by_cases h:i=j <;> simp[h,eq_comm])
theorem Rh (i:Nat)(c:Code)(k:List Item):exitTo i (.code c :: k)=exitTo i k:=nrfl rfl
theorem Ri (i:Nat)(c:Code)(k:List Item):exitTo i (.inLoop c :: k)=exitTo i k:=nrfl rfl
@[congr] theorem exitTo_congr {i i':Nat}{k:List Item}(h:i=i'):exitTo i k=exitTo i' k:=by rw[h]
section
variable (P:Program) (fn:Func) (str hcs:List Nat) (b:Nat) (r:AV) (H':List AO)
theorem OU:(Ju P fn str hcs r).P=P:=nrfl rfl
theorem EK:(Ju P fn str hcs r).fn=fn:=nrfl rfl
theorem gl:(Ju P fn str hcs r).str=str:=nrfl rfl
theorem gh:(Ju P fn str hcs r).hcs=hcs:=nrfl rfl
theorem rN:(Ly P fn str hcs b r H').P=P:=nrfl rfl
theorem VD:(Ly P fn str hcs b r H').fn=fn:=nrfl rfl
theorem g8:(Ly P fn str hcs b r H').str=str:=nrfl rfl
theorem fZ:(Ly P fn str hcs b r H').hcs=hcs:=nrfl rfl
end
section
variable (P:Program)
theorem Eg {α:Type}{p:Prop}(h:p)(x:Option α):Q4 p x=x:=if_pos h
theorem WW (op:BinOp)(t:TypeId)(i:Nat)(a b:AV):IV P op t (.tmp i) a b=Cb P op t a b:=nrfl rfl
theorem WU (op:BinOp)(t:TypeId)(k:IntKind)(n:Int)(a b:AV):IV P op t (.const (.int k n)) a b=Cb P op t a b:=nrfl rfl
theorem WV (op:BinOp)(t:TypeId)(a b:AV):IV P op t (.const (.slice none 0 0)) a b=ej P op t a:=nrfl rfl
theorem ek (t:TypeId)(n m:Nat)(f:Nat→AV)(b:Bool):ej P .eql t (.sl n m f b)=Q4 (HE P t=true) (some (if n=0 then .abool else .bool false)):=nrfl rfl
theorem dn (t:TypeId)(k:IntKind)(x y:Int):Cb P .add t (.int k x) (.int k y)=some (.int k (k.wrap (x+y))):=Eg rfl _
theorem Px (t:TypeId)(k:IntKind)(x y:Int):Cb P .sub t (.int k x) (.int k y)=some (.int k (k.wrap (x-y))):=Eg rfl _
theorem dD (t:TypeId)(k:IntKind)(x y:Int):Cb P .mul t (.int k x) (.int k y)=some (.int k (k.wrap (x*y))):=Eg rfl _
theorem dF (t:TypeId)(k:IntKind)(x y:Int):Cb P .quo t (.int k x) (.int k y)=Q4 (y≠0) (some (.int k (k.wrap (x.tdiv y)))):=by simp[Cb]
theorem dH (t:TypeId)(k:IntKind)(x y:Int):Cb P .rem t (.int k x) (.int k y)=Q4 (y≠0) (some (.int k (x.tmod y))):=by simp[Cb]
theorem dp (t:TypeId)(k:IntKind)(x y:Int):Cb P .eql t (.int k x) (.int k y)=some (.bool (decide (x=y))):=Eg rfl _
theorem dE (t:TypeId)(k:IntKind)(x y:Int):Cb P .neq t (.int k x) (.int k y)=some (.bool (!decide (x=y))):=Eg rfl _
theorem dC (t:TypeId)(k:IntKind)(x y:Int):Cb P .lss t (.int k x) (.int k y)=some (.bool (decide (x<y))):=Eg rfl _
theorem dz (t:TypeId)(k:IntKind)(x y:Int):Cb P .leq t (.int k x) (.int k y)=some (.bool (decide (x≤y))):=Eg rfl _
theorem dw (t:TypeId)(k:IntKind)(x y:Int):Cb P .gtr t (.int k x) (.int k y)=some (.bool (decide (y<x))):=Eg rfl _
theorem dt (t:TypeId)(k:IntKind)(x y:Int):Cb P .geq t (.int k x) (.int k y)=some (.bool (decide (y≤x))):=Eg rfl _
theorem WX (t:TypeId)(x y:Bool):Cb P .eql t (.bool x) (.bool y)=Q4 (Lf P t=true) (some (.bool (x == y))):=nrfl rfl
theorem WY (t:TypeId)(x y:Bool):Cb P .neq t (.bool x) (.bool y)=Q4 (Lf P t=true) (some (.bool (!(x == y)))):=nrfl rfl
theorem md (b:Bool):ri .not (.bool b)=some (.bool !b):=nrfl rfl
theorem mc (k:IntKind)(n:Int):ri .neg (.int k n)=some (.int k (k.wrap (0-n))):=nrfl rfl
theorem ei (k:IntKind)(x y:Int):Yd (.int k x) (.int k y)=some (.int k (if y<x then y else x)):=Eg rfl _
theorem eg (k:IntKind)(x y:Int):Yc (.int k x) (.int k y)=some (.int k (if x<y then y else x)):=Eg rfl _
end
theorem Eh {α:Type}(x:Option α):Q4 True x=x:=if_pos trivial
theorem od (k:IntKind)(n:Int):(AV.int k n).one=true:=nrfl rfl
theorem M3 (b:Bool):(AV.bool b).one=true:=nrfl rfl
theorem Uy (n m:Nat)(f:Nat→AV)(t:Bool):(AV.sl n m f t).one=true:=nrfl rfl
theorem oe (i v o:Nat):(AV.ref i v o).one=true:=nrfl rfl
theorem W4 (i v e o n:Nat):(AV.osl i v e o n).one=true:=nrfl rfl
theorem Ux (g:FuncId)(l:List AV):(AV.fn g l).one=true:=nrfl rfl
theorem Hc (l:List AV):(AV.agg l).cells=l:=nrfl rfl
theorem Yt (k:IntKind)(n:Int):AV.cells (.int k n)=[.int k n]:=nrfl rfl
theorem au (k:IntKind)(n:Int):AV.loose (.int k n)=.int k n:=nrfl rfl
theorem TX (b:Bool):AV.cells (.bool b)=[.bool b]:=nrfl rfl
theorem FF (b:Bool):AV.loose (.bool b)=.bool b:=nrfl rfl
theorem fy (n m:Nat)(f:Nat→AV)(t:Bool):AV.cells (.sl n m f t)=[.sl n m f t]:=nrfl rfl
theorem LY (n m:Nat)(f:Nat→AV)(t:Bool):AV.loose (.sl n m f t)=.sl n m f false:=nrfl rfl
theorem Yu (i v o:Nat):AV.cells (.ref i v o)=[.ref i v o]:=nrfl rfl
theorem av (i v o:Nat):AV.loose (.ref i v o)=.ref i v o:=nrfl rfl
theorem Nm (i v e o n:Nat):AV.cells (.osl i v e o n)=[.osl i v e o n]:=nrfl rfl
theorem ND (i v e o n:Nat):AV.loose (.osl i v e o n)=.osl i v e o n:=nrfl rfl
theorem fx (g:FuncId)(l:List AV):AV.cells (.fn g l)=[.fn g l]:=nrfl rfl
theorem iN (g:FuncId)(l:List AV):AV.loose (.fn g l)=.fn g l:=nrfl rfl
theorem Yo (k:IntKind)(n:Int):AV.boxed (.int k n)=.int k n:=nrfl rfl
theorem TU (b:Bool):AV.boxed (.bool b)=.bool b:=nrfl rfl
theorem Yp (i v o:Nat):AV.boxed (.ref i v o)=.ref i v o:=nrfl rfl
theorem Yq (n m:Nat)(f:Nat→AV):AV.boxed (.sl n m f false)=.sl n m f false:=nrfl rfl
theorem Yr (n m:Nat)(f:Nat→AV):AV.boxed (.sl n m f true)=.sl n m f (n == 0):=nrfl rfl
theorem C4 {P:Program}{fn:Func}{str hcs:List Nat}{r:AV}{s:AS}{t:Nat}(hr:fn.results=#[.tmp t])(h:Zs s.h (s.get t) r):RetOk (Ju P fn str hcs r) s :=
 ⟨s.get t,by simp[ZN,EK,hr,Jj,Zq,Bb],h⟩
theorem oD {P:Program}{fn:Func}{str hcs:List Nat}{r:AV}{s:AS}{t u:Nat}(hr:fn.results=#[.tmp t,.tmp u])(h:Zs s.h (.tup [s.get t,s.get u]) r):RetOk (Ju P fn str hcs r) s :=
 ⟨.tup [s.get t,s.get u],by simp[ZN,EK,hr,Jj,Zq,Bb],h⟩
theorem jE {P:Program}{fn:Func}{str hcs:List Nat}{b:Nat}{r:AV}{H:List AO}{s:AS}{t:Nat}(hr:fn.results=#[.tmp t])(h:s.get t=r)(hH:s.h=H):RetOk (Ly P fn str hcs b r H) s :=
 ⟨s.get t,by simp[ZN,VD,hr,Jj,Zq,Bb],h,hH⟩
theorem Q1 {H:List AO}{a b:AV}(h:Settled b)(he:a=b):Zs H a b:=by subst he;exact h.sees H
theorem Mu {α:Type}{e:α→AV}{d:α}{l:List α}{H:List AO}{id ver n off:Nat}(he:∀a,Settled (e a)) (ho:H[id]?=some (.row ver n (QL e d l))∨H[id]?=some (.con ver n (QL e d l))) (hn:l.length≤n) (hoff:off=0) :
  Zs H (.osl id ver 1 off l.length) (Qs e d l):=by
 subst hoff;exact Z2 ho (by omega) (by omega) fun j _=>by rw[Nat.zero_add];exact(he _).sees H
theorem AH {α:Type}{e:α→AV}{d:α}{l:List α}{H:List AO}{a:AV}{id ver n m:Nat}{g:Nat→AV}(he:∀a,Settled (e a)) (ha:a=.osl id ver 1 0 m) (ho:H[id]?=some (.row ver n g)) (hm:m=l.length) (hg:g=QL e d l) (hn:l.length≤n):Zs H a (Qs e d l):=by
 subst ha;subst hm;subst hg;exact Mu he (.inl ho) hn rfl
theorem US {H:List AO}{f g:Nat→AV}{t:Bool}:Zs H (.sl 0 0 f t) (.sl 0 0 g false):=by
 intro c v _ _ h;cases h with
 |sl b base _ _ cap _ _ us hS hc hr hn ht=>exact .slz _ _ _ _ (by simp)
 |slz a cap _ _ ht=>exact .slz _ _ _ _ (by simp)
theorem RM (a:AV):(∀j,j<1→(Xf [a] j).one=true)=(a.one=true):=by
 apply propext;constructor
 ·intro h;exact h 0 (by omega)
 ·intro h j hj
  obtain rfl:j=0:=by omega
  exact h
theorem OA (l:List Int)(x:Int):Qf l.length (QL I 0 l) 1 (Xf [.int .i64 x])=QL I 0 (l ++ [x]):=by
 have:=ez I 0 l x;rw[Nat.mul_one,Nat.mul_one]at this;exact this
theorem Sh {c c':Ctx}(hw:c'.w=c.w)(hS:c'.S=c.S)(hγ:c'.γ=c.γ)(hi:∀ id,inf c'.H id=inf c.H id)(hd:∀id:Nat,c'.H[id]?=some AO.dead↔c.H[id]?=some AO.dead)
  (hm:∀ (id:Nat) k g,c.H[id]?=some (AO.map k g)→c'.H[id]?=some (AO.map k g)) {v:Value} {a:AV} (h:Rep c v a):Rep c' v a :=
 h.ext (fun b hb=>by rw[hS];exact hb) (fun b _=>by rw[hw]) (by
  intro id o ho;have key:∀v,inf c.H id=some v→(c'.H[id]?=some .dead∨∃v',Ab.inf c'.H id=some v'∧(v<v'∨(v'=v∧c'.γ id=c.γ id))) :=
   fun v hv=>.inr ⟨v,by rw[hi];exact hv,.inr ⟨rfl,by rw[hγ]⟩⟩
  cases o with
  |unborn=>trivial
  |dead=>exact(hd id).2 ho
  |row v _ _=>exact key v (by simp[inf,ho,AO.info])
  |con v _ _=>exact key v (by simp[inf,ho,AO.info])
  |map k g=>exact .inr ⟨⟨k,g,hm id k g ho⟩,by rw[hγ]⟩)
theorem KH {m:Nat}{s:AS}(id:Nat){ver n:Nat}{f:Nat→AV}(n':Nat)(g:Nat→AV)(ho:s.h[id]?=some (.row ver n f)) (hn':n'≤n) (hfg:∀j,j<n'→f j=g j):Sub m s { s with h:=s.h.set id (.row ver n' g) }:=by
 intro N c a hst;have hH:=hst.heap;rw[←hH]at ho;have hlt:=(List.getElem?_eq_some_iff.1 ho).1;have hat:(c.H.set id (.row ver n' g))[id]?=some (.row ver n' g):=by simp[hlt]
 have hoth:∀i,i≠id→(c.H.set id (AO.row ver n' g))[i]?=c.H[i]?:=fun i hi=>List.getElem?_set_ne (Ne.symm hi)
 let c':Ctx:=⟨c.w,c.S,c.γ,c.H.set id (.row ver n' g)⟩
 have hinf:∀i,inf c'.H i=inf c.H i:=fun i=>by
  by_cases hi:i=id
  ·subst hi;simp[inf,c',hat,ho,AO.info]
  ·simp[inf,c',hoth i hi]
 have hdead:∀i:Nat,c'.H[i]?=some AO.dead↔c.H[i]?=some AO.dead:=fun i=>by
  by_cases hi:i=id
  ·subst hi;simp[c',hat,ho]
  ·simp[c',hoth i hi]
 have hmap:∀ (i:Nat) k q,c.H[i]?=some (AO.map k q)↔c'.H[i]?=some (AO.map k q):=fun i k q=>by
  by_cases hi:i=id
  ·subst hi;simp[c',hat,ho]
  ·simp[c',hoth i hi]
 have hrep:∀ {v a},Rep c v a→Rep c' v a:=fun hv=>Sh (c:=c) (c':=c') rfl rfl rfl hinf hdead (fun i k q=>(hmap i k q).1) hv
 have howns:∀b,ZK c' b→ZK c b:=by
  rintro b ⟨i,o,sz,hoi,hown,hg⟩;by_cases hi:i=id
  ·subst hi;exact⟨i,_,sz,ho,rfl,hg⟩
  ·exact⟨i,o,sz,by rw[←hoth i hi];exact hoi,hown,hg⟩
 have hext:Ext c c':=by
  refine⟨?_,fun b h=>h,fun b h=>.inl h,fun b h=>.inr (howns b h),fun _ _ _=>rfl,Nat.le_refl _,rfl,rfl,rfl⟩;intro i o hoi;have key:∀v,inf c.H i=some v→(c'.H[i]?=some .dead∨∃v',Ab.inf c'.H i=some v'∧(v<v'∨(v'=v∧c'.γ i=c.γ i))) :=
   fun v hv=>.inr ⟨v,by rw[hinf];exact hv,.inr ⟨rfl,rfl⟩⟩
  cases o with
  |unborn=>trivial
  |dead=>exact(hdead i).2 hoi
  |row v _ _=>exact key v (by simp[inf,hoi,AO.info])
  |con v _ _=>exact key v (by simp[inf,hoi,AO.info])
  |map k q=>exact .inr ⟨⟨k,q,(hmap i k q).1 hoi⟩,rfl⟩
 refine⟨c',rfl,hext.toB m,hst.size,hst.defers,fun i=>hrep (hst.slots i),by simp[c',hH],?_⟩;refine⟨?_,?_,?_,?_,hst.hrel.bound⟩
 ·intro i v k q hoi
  by_cases hi:i=id
  ·subst hi
   simp only[c']at hoi;rw[hat]at hoi;cases hoi;rcases hst.hrel.row i ver n f ho with h | ⟨b,sz,cs,el,h1,h2,h3,h4,h5,h6⟩
   ·exact .inl ⟨h.1,by omega⟩
   ·exact .inr ⟨b,sz,cs,el,h1,h2,h3,by omega,h5,fun j hj=>by rw[←hfg j hj];exact hrep (h6 j (by omega))⟩
  ·simp only[c']at hoi
   rw[hoth i hi]at hoi;rcases hst.hrel.row i v k q hoi with h | ⟨b,sz,cs,el,h1,h2,h3,h4,h5,h6⟩
   ·exact .inl h
   ·exact .inr ⟨b,sz,cs,el,h1,h2,h3,h4,h5,fun j hj=>hrep (h6 j hj)⟩
 ·intro i v k q hoi
  by_cases hi:i=id
  ·subst hi;simp only[c']at hoi;rw[hat]at hoi;cases hoi
  ·simp only[c']at hoi
   rw[hoth i hi]at hoi;rcases hst.hrel.con i v k q hoi with h | ⟨b,sz,cs,el,fr,h1,h2,h3,h4,h5,h6⟩
   ·exact .inl h
   ·exact .inr ⟨b,sz,cs,el,fr,h1,h2,h3,h4,h5,fun j hj=>hrep (h6 j hj)⟩
 ·intro i k q hoi
  obtain⟨b,sz,es,cl,h1,h2,h3,h4⟩:=hst.hrel.map i k q ((hmap i k q).2 hoi);exact⟨b,sz,es,cl,h1,h2,h3,h4.ext fun v a hv=>hrep hv⟩
 ·intro i i' o o' b sz sz' hoi hoi' h1 h2 hg hg'
  have key:∀ (i:Nat) o,c'.H[i]?=some o→o.owned=true→∃o2:AO,c.H[i]?=some o2∧o2.owned=true:=by
   intro i o hoi h;by_cases hi:i=id
   ·subst hi;exact⟨_,ho,rfl⟩
   ·exact⟨o,by rw[←hoth i hi];exact hoi,h⟩
  obtain⟨o2,k1,k2⟩:=key i o hoi h1;obtain⟨o3,k3,k4⟩:=key i' o' hoi' h2;exact hst.hrel.inj _ _ _ _ _ _ _ k1 k3 k2 k4 hg hg'
def wJ (n0:Nat)(hid:List Nat)(sl:List AV)(tm:List (Nat×AV)) (h:List AO):AS:=⟨n0,hid,sl,tm,h⟩
def CD (s:AS):AS:=s
theorem nW (n0:Nat)(hid:List Nat)(sl:List AV)(tm:List (Nat×AV)) (h:List AO):CD ⟨n0,hid,sl,tm,h⟩=wJ n0 hid sl tm h:=nrfl rfl
def QI (s:AS)(K:AS→Prop):Prop:=K s
@[congr] theorem normS_congr {s s':AS}{K:AS→Prop}(h:s=s'):QI s K=QI s' K:=by rw[h]
theorem RK (n0:Nat)(hid:List Nat)(sl:List AV)(tm:List (Nat×AV)) (h:List AO) (K:AS→Prop):QI (wJ n0 hid sl tm h) K=K ⟨n0,hid,sl,tm,h⟩:=nrfl rfl
section
variable (X:Env) (n:Nat) (k:List Item) (s:AS)
theorem Ts (id:Nat)(ops:List Oper):vc X (n+1) (.code (.region id ops.toArray false) :: k) s=(QI (CD s.clr) fun s=>Xu X n ⟨ops.toArray,GQ X.str id,true,none,0,0⟩ ops k s):=nrfl rfl
theorem cW (id:Nat)(ops:List Oper):vc X (n+1) (.code (.region id ops.toArray true) :: k) s =
 (Di X.str id=true∧QI (CD (s.frz (Fj X.str id))) fun s=>QI (CD (E6 (X.hcs.contains id) ops.toArray s)) fun s'=>Xu X n ⟨ops.toArray,GQ X.str id,X.hcs.contains id,some s.h.length,0,s.h.length⟩ ops k s'):=nrfl rfl
theorem nL:s.frz []=s:=nrfl rfl
theorem i9 (i:Nat)(l:List Nat):s.frz (i :: l)=(gR s (s.get i)).frz l:=nrfl rfl
theorem gV (id ver off:Nat):gR s (.ref id ver off)=Uc s id s.h[id]?:=nrfl rfl
theorem gU (id ver es off n:Nat):gR s (.osl id ver es off n)=Uc s id s.h[id]?:=nrfl rfl
theorem gY (n0:Nat)(hid:List Nat)(sl:List AV)(tm:List (Nat×AV)) (h:List AO) (id ver n:Nat) (f:Nat→AV):Uc ⟨n0,hid,sl,tm,h⟩ id (some (.row ver n f))=⟨n0,hid,sl,tm,h.set id (.con ver n f)⟩:=nrfl rfl
theorem gX (n0:Nat)(hid:List Nat)(sl:List AV)(tm:List (Nat×AV)) (h:List AO) (id ver n:Nat) (f:Nat→AV):Uc ⟨n0,hid,sl,tm,h⟩ id (some (.con ver n f))=⟨n0,hid,sl,tm,h⟩:=nrfl rfl
theorem Ua (id:Nat):Di [] id=true:=nrfl rfl
theorem Rm (c:Nat)(l:List Nat)(id:Nat):Di (c :: l) id=if c/1000000000000=id+1 then false else Di l id:=nrfl rfl
theorem YR (id:Nat):Fj [] id=[]:=nrfl rfl
theorem Ub (n:Nat)(l:List Nat)(id:Nat):Fj (n :: l) id=if n/10000000=id+1 then n%10000000 :: Fj l id else Fj l id:=nrfl rfl
variable (all:Array Oper) (st:Nat→Bool) (hc:Bool) (bs:Option Nat) (i nx:Nat) (os:List Oper) (d:Option Nat) (t:TypeId) (p:String) (af:Array Edge) (g:Option (Nat×Bool))
theorem Tq (op:Op)(j:Nat):Xu X (n+1) ⟨all,st,hc,bs,i,nx⟩ (⟨d,op,t,p,af,some (j,true)⟩ :: os) k s =
 mT (BQ all j) fun e=>lm (s.get e) (QI (CD (s.fix e (.bool true))) fun s=>Qh X n ⟨all,st,hc,bs,i,nx⟩ ⟨d,op,t,p,af,some (j,true)⟩ os k s)
  (QI (CD ((s.fix e (.bool false)).putO d XO)) fun s=>Xu X n (Md.next ⟨all,st,hc,bs,i,nx⟩ ⟨d,op,t,p,af,some (j,true)⟩) os k s)
  (QI (CD (s.putO d XO)) fun s=>Xu X n (Md.next ⟨all,st,hc,bs,i,nx⟩ ⟨d,op,t,p,af,some (j,true)⟩) os k s):=cD X n k s all st hc bs i nx os d op t p af j
theorem Tp (op:Op)(j:Nat):Xu X (n+1) ⟨all,st,hc,bs,i,nx⟩ (⟨d,op,t,p,af,some (j,false)⟩ :: os) k s =
 mT (BQ all j) fun e=>lm (s.get e) (QI (CD ((s.fix e (.bool true)).putO d XO)) fun s=>Xu X n (Md.next ⟨all,st,hc,bs,i,nx⟩ ⟨d,op,t,p,af,some (j,false)⟩) os k s)
  (QI (CD (s.fix e (.bool false))) fun s=>Qh X n ⟨all,st,hc,bs,i,nx⟩ ⟨d,op,t,p,af,some (j,false)⟩ os k s)
  (QI (CD (s.putO d XO)) fun s=>Xu X n (Md.next ⟨all,st,hc,bs,i,nx⟩ ⟨d,op,t,p,af,some (j,false)⟩) os k s):=cC X n k s all st hc bs i nx os d op t p af j
theorem To (M:Md)(f:Operand)(args:Array Operand)(ts:Array TypeId) :
 Qh X (n+1) M ⟨d,.call { callee:=.value f,args:=args,argTypes:=ts },t,p,af,g⟩ os k s =
  pO X M ⟨d,.call { callee:=.value f,args:=args,argTypes:=ts },t,p,af,g⟩
   (fun s'=>QI (CD s') fun s'=>Xu X n (M.next ⟨d,.call { callee:=.value f,args:=args,argTypes:=ts },t,p,af,g⟩) os k s') .mk (s.ev f) (args.toList.map s.ev) s:=nrfl rfl
theorem dc:vc X 0 k s=WS X k .mk s:=nrfl (by unfold vc;rfl)
theorem lV:vc X (n+1) (.code .ret :: k) s=ub X .mk s:=nrfl rfl
theorem lU:vc X (n+1) [] s=vT X .mk s:=nrfl rfl
theorem cZ (b:Code):vc X (n+1) (.code (.loop b) :: k) s=WS X (.code (.loop b) :: k) .mk s:=nrfl rfl
theorem Tr (b:Code):vc X (n+1) (.inLoop b :: k) s=WS X (.inLoop b :: k) .mk s:=nrfl rfl
theorem cV (x y z:Operand):Qh X (n+1) ⟨all,st,hc,bs,i,nx⟩ ⟨d,.pick x y z,t,p,af,g⟩ os k s =
  sM (s.ev x) (QI (CD (s.putO d (s.ev y))) fun s=>Xu X n ⟨all,st,hc,bs,i+1,nx⟩ os k s) (QI (CD (s.putO d (s.ev z))) fun s=>Xu X n ⟨all,st,hc,bs,i+1,nx⟩ os k s):=by
 rw[jk];rfl
theorem Pw (x:Operand)(j:Nat):Qh X (n+1) ⟨all,st,hc,bs,i,nx⟩ ⟨d,.extract x j,t,p,af,g⟩ os k s=lz (s.ev x) j fun v=>(QI (CD (s.putO d v)) fun s=>Xu X n ⟨all,st,hc,bs,i+1,nx⟩ os k s):=by
 rw[RP];rfl
theorem cU (x:Operand):Qh X (n+1) ⟨all,st,hc,bs,i,nx⟩ ⟨d,.move x,t,p,af,g⟩ os k s=(QI (CD (s.putO d (s.ev x))) fun s=>Xu X n ⟨all,st,hc,bs,i+1,nx⟩ os k s):=by
 first | (rw[W9];rfl) |rw[W9]
theorem Tm (x:Operand):Qh X (n+1) ⟨all,st,hc,bs,i,nx⟩ ⟨d,.assign x,t,p,af,g⟩ os k s=(QI (CD (s.putO d (s.ev x))) fun s=>Xu X n ⟨all,st,hc,bs,i+1,nx⟩ os k s):=by
 first | (rw[NN];rfl) |rw[NN]
theorem cQ (u:TypeId)(x:Operand):Qh X (n+1) ⟨all,st,hc,bs,i,nx⟩ ⟨d,.load u x,t,p,af,g⟩ os k s=XY (Qm X.P (st i) u (s.ev x) s.h) fun v=>(QI (CD (s.putO d v)) fun s=>Xu X n ⟨all,st,hc,bs,i+1,nx⟩ os k s):=by
 first | (rw[W7];rfl) |rw[W7]
theorem lN (o:BinOp)(u u':TypeId)(x y:Operand):Qh X (n+1) ⟨all,st,hc,bs,i,nx⟩ ⟨d,.binOp o u x y u',t,p,af,g⟩ os k s=XY (IV X.P o u y (s.ev x) (s.ev y)) fun v=>(QI (CD (s.putO d v)) fun s=>Xu X n ⟨all,st,hc,bs,i+1,nx⟩ os k s):=by
 first | (rw[jf];rfl) |rw[jf]
theorem r6 (o:UnOp)(u:TypeId)(x:Operand):Qh X (n+1) ⟨all,st,hc,bs,i,nx⟩ ⟨d,.unOp o u x,t,p,af,g⟩ os k s=XY (ri o (s.ev x)) fun v=>(QI (CD (s.putO d v)) fun s=>Xu X n ⟨all,st,hc,bs,i+1,nx⟩ os k s):=by
 first | (rw[qv];rfl) |rw[qv]
theorem cO (u u':TypeId)(x:Operand):Qh X (n+1) ⟨all,st,hc,bs,i,nx⟩ ⟨d,.convert u u' x,t,p,af,g⟩ os k s=XY (Nf X.P u u' (s.ev x)) fun v=>(QI (CD (s.putO d v)) fun s=>Xu X n ⟨all,st,hc,bs,i+1,nx⟩ os k s):=by
 first | (rw[W5];rfl) |rw[W5]
theorem MH (u:TypeId)(x y:Operand):Qh X (n+1) ⟨all,st,hc,bs,i,nx⟩ ⟨d,.indexAddr u x y,t,p,af,g⟩ os k s=XY (D4 X.P u (s.ev x) (s.ev y)) fun v=>(QI (CD (s.putO d v)) fun s=>Xu X n ⟨all,st,hc,bs,i+1,nx⟩ os k s):=by
 first | (rw[Gv];rfl) |rw[Gv]
theorem MG (u:TypeId)(x:Operand)(j:Nat):Qh X (n+1) ⟨all,st,hc,bs,i,nx⟩ ⟨d,.fieldAddr u x j,t,p,af,g⟩ os k s=XY (Ce X.P u (s.ev x) j) fun v=>(QI (CD (s.putO d v)) fun s=>Xu X n ⟨all,st,hc,bs,i+1,nx⟩ os k s):=by
 first | (rw[Gu];rfl) |rw[Gu]
theorem WN (u:TypeId)(x:Operand)(j:Nat):Qh X (n+1) ⟨all,st,hc,bs,i,nx⟩ ⟨d,.field u x j,t,p,af,g⟩ os k s=XY (H7 X.P u (s.ev x) j) fun v=>(QI (CD (s.putO d v)) fun s=>Xu X n ⟨all,st,hc,bs,i+1,nx⟩ os k s):=by
 first | (rw[RS];rfl) |rw[RS]
theorem WM (u:TypeId)(ps:Array (Nat×Operand)):Qh X (n+1) ⟨all,st,hc,bs,i,nx⟩ ⟨d,.build u ps,t,p,af,g⟩ os k s=XY (Fv X.P u (ps.toList.map fun q=>(q.1,s.ev q.2))) fun v=>(QI (CD (s.putO d v)) fun s=>Xu X n ⟨all,st,hc,bs,i+1,nx⟩ os k s):=by
 first | (rw[RO];rfl) |rw[RO]
theorem IU (u:TypeId)(m:Nat)(ps:Array (Nat×Operand)):Qh X (n+1) ⟨all,st,hc,bs,i,nx⟩ ⟨d,.buildSlice u m ps,t,p,af,g⟩ os k s=uC (st i) X.P u m (ps.toList.map fun q=>(q.1,s.ev q.2)) s.h fun v h'=>(QI (CD (({ s with h:=h' }:AS).putO d v)) fun s=>Xu X n ⟨all,st,hc,bs,i+1,nx⟩ os k s):=by
 first | (rw[Fk];rfl) |rw[Fk]
theorem WP (u:TypeId)(x y:Operand):Qh X (n+1) ⟨all,st,hc,bs,i,nx⟩ ⟨d,.store u x y,t,p,af,g⟩ os k s=XY (KU X.P (st i) u (s.ev x) (s.ev y) s.h) fun h'=>(QI (CD (({ s with h:=h' }:AS).putO d XO)) fun s=>Xu X n ⟨all,st,hc,bs,i+1,nx⟩ os k s):=by
 first | (rw[RU];rfl) |rw[RU]
theorem Oj (x:Operand):Qh X (n+1) ⟨all,st,hc,bs,i,nx⟩ ⟨d,.nilCheck x,t,p,af,g⟩ os k s=((s.ev x).isPtr=true∧(QI (CD (s.putO d (s.ev x))) fun s=>Xu X n ⟨all,st,hc,bs,i+1,nx⟩ os k s)):=by
 first | (rw[I5];rfl) |rw[I5]
theorem WO (u:TypeId)(x:Operand)(lo hi:Option Operand):Qh X (n+1) ⟨all,st,hc,bs,i,nx⟩ ⟨d,.slice u x lo hi none,t,p,af,g⟩ os k s =
  XY (DZ X.P u (s.ev x) (lo.map s.ev) (hi.map s.ev) none) fun v=>(QI (CD (s.putO d v)) fun s=>Xu X n ⟨all,st,hc,bs,i+1,nx⟩ os k s):=by
 first | (rw[RT];rfl) |rw[RT]
theorem Tn (u:TypeId)(x:Operand)(lo:Option Operand)(hi mx:Operand):Qh X (n+1) ⟨all,st,hc,bs,i,nx⟩ ⟨d,.slice u x lo (some hi) (some mx),t,p,af,g⟩ os k s =
  XY (DZ X.P u (s.ev x) (lo.map s.ev) (some (s.ev hi)) (some (s.ev mx))) fun v=>(QI (CD (s.putO d v)) fun s=>Xu X n ⟨all,st,hc,bs,i+1,nx⟩ os k s):=by
 first | (rw[NO];rfl) |rw[NO]
theorem Oh (f:FuncId)(caps:Array Operand):Qh X (n+1) ⟨all,st,hc,bs,i,nx⟩ ⟨d,.makeFunc (.func f) #[] caps,t,p,af,g⟩ os k s=(QI (CD (s.putO d (.fn f (caps.toList.map s.ev)))) fun s=>Xu X n ⟨all,st,hc,bs,i+1,nx⟩ os k s):=by
 first | (rw[I3];rfl) |rw[I3]
theorem Oi (f:FuncId)(r:Operand):Qh X (n+1) ⟨all,st,hc,bs,i,nx⟩ ⟨d,.makeFunc (.func f) #[r] #[],t,p,af,g⟩ os k s=(QI (CD (s.putO d (.mfn f (s.ev r)))) fun s=>Xu X n ⟨all,st,hc,bs,i+1,nx⟩ os k s):=by
 first | (rw[I4];rfl) |rw[I4]
theorem lP (x:Operand)(u:TypeId):Qh X (n+1) ⟨all,st,hc,bs,i,nx⟩ ⟨d,.call { callee:=.builtin .len,args:=#[x],argTypes:=#[u] },t,p,af,g⟩ os k s =
  XY (MP X.P u (s.ev x)) fun v=>(QI (CD (s.putO d v)) fun s=>Xu X n ⟨all,st,hc,bs,i+1,nx⟩ os k s):=by
 first | (rw[jh];rfl) |rw[jh]
theorem lS (x y:Operand)(us:Array TypeId):Qh X (n+1) ⟨all,st,hc,bs,i,nx⟩ ⟨d,.call { callee:=.builtin .min,args:=#[x,y],argTypes:=us },t,p,af,g⟩ os k s =
  XY (Yd (s.ev x) (s.ev y)) fun v=>(QI (CD (s.putO d v)) fun s=>Xu X n ⟨all,st,hc,bs,i+1,nx⟩ os k s):=by
 first | (rw[jj];rfl) |rw[jj]
theorem lQ (x y:Operand)(us:Array TypeId):Qh X (n+1) ⟨all,st,hc,bs,i,nx⟩ ⟨d,.call { callee:=.builtin .max,args:=#[x,y],argTypes:=us },t,p,af,g⟩ os k s =
  XY (Yc (s.ev x) (s.ev y)) fun v=>(QI (CD (s.putO d v)) fun s=>Xu X n ⟨all,st,hc,bs,i+1,nx⟩ os k s):=by
 first | (rw[ji];rfl) |rw[ji]
theorem Tl (x y:Operand)(u:TypeId):Qh X (n+1) ⟨all,st,hc,bs,i,nx⟩ ⟨d,.call { callee:=.builtin .append,args:=#[x,y],argTypes:=#[u,u] },t,p,af,g⟩ os k s =
  XY (QG X.P u (s.ev x) (s.ev y) s.h) fun r=>(QI (CD (({ s with h:=r.2 }:AS).putO d r.1)) fun s=>Xu X n ⟨all,st,hc,bs,i+1,nx⟩ os k s):=by
 first | (rw[NM];rfl) |rw[NM]
theorem cP (x y:Operand)(u u':TypeId):Qh X (n+1) ⟨all,st,hc,bs,i,nx⟩ ⟨d,.call { callee:=.builtin .copy,args:=#[x,y],argTypes:=#[u,u'] },t,p,af,g⟩ os k s =
  XY (Fe X.P u (s.ev x) (s.ev y) s.h) fun r=>(QI (CD (({ s with h:=r.2 }:AS).putO d r.1)) fun s=>Xu X n ⟨all,st,hc,bs,i+1,nx⟩ os k s):=by
 first | (rw[W6];rfl) |rw[W6]
theorem WL (u:TypeId):Qh X (n+1) ⟨all,st,hc,none,i,nx⟩ ⟨d,.alloc u,t,p,af,g⟩ os k s =
  XY (Ax X.P none u s.h) fun r=>(QI (CD (({ s with h:=r.2 }:AS).putO d r.1)) fun s=>Xu X n ⟨all,st,hc,none,i+1,nx⟩ os k s):=by
 first | (rw[RN];rfl) |rw[RN]
theorem lO (u:TypeId)(x:Operand):Qh X (n+1) ⟨all,st,hc,none,i,nx⟩ ⟨d,.box u x,t,p,af,g⟩ os k s =
  XY (MK none (s.ev x) s.h) fun r=>(QI (CD (({ s with h:=r.2 }:AS).putO d r.1)) fun s=>Xu X n ⟨all,st,hc,none,i+1,nx⟩ os k s):=by
 first | (rw[jg];rfl) |rw[jg]
theorem cT (u:TypeId)(x y:Operand):Qh X (n+1) ⟨all,st,hc,none,i,nx⟩ ⟨d,.makeSlice u x y,t,p,af,g⟩ os k s =
  XY (DM X.P none u (s.ev x) (s.ev y) s.h) fun r=>(QI (CD (({ s with h:=r.2 }:AS).putO d r.1)) fun s=>Xu X n ⟨all,st,hc,none,i+1,nx⟩ os k s):=by
 first | (rw[W8];rfl) |rw[W8]
variable (b:Nat)
theorem Tk (u:TypeId):Qh X (n+1) ⟨all,st,hc,some b,i,nx⟩ ⟨d,.alloc u,t,p,af,g⟩ os k s =
  (s.h[nx]?=some .unborn∧XY (Ax X.P (some nx) u s.h) fun r=>(QI (CD (({ s with h:=r.2 }:AS).putO d r.1)) fun s=>Xu X n ⟨all,st,hc,some b,i+1,nx+1⟩ os k s)):=by
 first | (rw[NL];rfl) |rw[NL]
end
theorem sJ (l:List AV)(j:Nat):Xf l j=l.getD j .any:=nrfl rfl
theorem aG (a:AV):(∀j,j<1→(([a]:List AV).getD j .any).one=true)=(a.one=true):=RM a
theorem lk (a:AV):ZE [a]=fun _=>a:=nrfl rfl
theorem XG {X:Env}(n:Nat){k:List Item}{s:AS}(h:QI (CD s) fun s=>vc X n k s):Run X k s:=kO n h
end
end Go.Ab
