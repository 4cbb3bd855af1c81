/- A layer of abstract values and heaps over the model; what is proved here is that its steps and contracts are sound, for every program. -/
import Derived.Test.YtcmfnmceomhgcaaGreatAb2
set_option linter.unusedSimpArgs false
set_option linter.unusedVariables false
open Array renaming replicate→ZCw
open List renaming replicate→ZAJ,filter_cons→ZC8
open Nat renaming mul_one→ZCN
open Option renaming map→zV
namespace Go.Ab
open Go Go.RowKit
theorem V':type_of%@List.not_mem_nil:=@List.not_mem_nil
theorem ZAF:type_of%@List.length_cons:=@List.length_cons
theorem ZAc:type_of%@List.length_nil:=@List.length_nil
noncomputable section
def JK (P:Program)(fn:Func)(str hcs:List Nat)(r:AV):Env:=⟨P,fn,str,hcs,0,none,[],none,fun v H=>Zs H v r⟩
@[simp] theorem TFR (P:Program)(fn:Func)(str hcs:List Nat)(r:AV)(s:AS):TD (JK P fn str hcs r) s=Al P fn s:=rfl
def AS.start (n0:Nat)(hid:List Nat)(args:List AV)(H:List AO):AS:=⟨n0,hid,args ++ ZAJ (n0-args.length) .any,[],H⟩
theorem mP {N n0:Nat}{hid:List Nat}{args:List AV}{c:Ctx}{vs:Array Value}(hr:I' c)(hv:TAF c vs args)(hlen:args.length≤N) :
  St N c { tmps:=vs ++ ZCw (N-vs.size) undef,defers:=[] } (AS.start n0 hid args c.H):=by
 refine⟨by simp;have:=hv.1;omega,rfl,fun i=>?_,rfl,hr⟩;unfold AS.get AS.start;simp only
 split
 ·by_cases hi:i<args.length
  ·have e1:(args ++ ZAJ (n0-args.length) AV.any).getD i .any=args.getD i .any:=by
    simp[K',S_ hi]
   have e2:(vs ++ ZCw (N-vs.size) undef).getD i undef=vs.getD i undef:=by
    simp[r_,Array.getElem?_append_left (show i<vs.size by rw[hv.1];exact hi)]
   rw[e1,e2];exact hv.2 i hi
  ·have e1:(args ++ ZAJ (n0-args.length) AV.any).getD i .any=.any:=by
    rw[K',d_ (by omega),ZAs]
    split <;> rfl
   rw[e1];exact .any _
 ·exact .any _
theorem FT {X:Env}{f:FuncId}{body:Code}(hf:X.P.funcs[f]?=some X.fn)(hb:X.fn.body=some body)(hm:X.P.follows .mixedOrders=true)(hok:QO X.fn.ntmps X.str X.hcs body=true)(hn:X.rnd=none)
  {c:Ctx} {vs:Array Value} {args:List AV} (hr:I' c) (hv:TAF c vs args) (hlen:args.length≤X.fn.ntmps) {n0:Nat} {hid:List Nat} (h:Run X [.code body] (AS.start n0 hid args c.H)) (TAj:∀p∈X.tok,TAT c p∧p.ce.H.length≤X.base) (TBj:∀l r r1,X.out=some (l,r,r1)→Kept c l (.loop r))
  {R:Ending→World→Prop} (hR:∀v r c',Rep c' v r→I' c'→UH X c c'→X.Q r c'.H→R (.returned v) c'.w):Calls X.P f vs c.w R:=by
 intro cs
 let b:Frame:={ (default:Frame)with fn:=f,kind:=.normal,roundOf:=none }
 have TCa:Frame.enter X.P f vs .normal=b.atR { ({ tmps:=vs ++ ZCw (X.fn.ntmps-vs.size) undef,defers:=[] }:Act)with defers:=[] } [.code body]:=by
  simp[Frame.enter,Frame.atR,hf,hb,b]
 obtain⟨v,fr,r,c',h1,h2,h4,h5,h6,h6',h7⟩:=h hm (by intro i hi;simp at hi;subst hi;exact hok) (by rw[hn];simp) c c _ [] (mP hr hv hlen) ⟨(Ext.refl c).toB _,TAj,fun l r e=>(by rw[hn]at e;cases e),trivial,fun l r r1 e _=>TBj l r r1 e⟩ b cs hf rfl (by rw[hn];rfl);rw[←TCa]at h1;unfold nV at h2;rw[hn]at h2;exact⟨.returned v,c'.w,fr,hR v r c' h4 h5 h6 h7,h1,h2.1,h2.2⟩
theorem BW {X:Env}{f:FuncId}{body:Code}(hf:X.P.funcs[f]?=some X.fn)(hb:X.fn.body=some body)(hm:X.P.follows .mixedOrders=true)(hok:QO X.fn.ntmps X.str X.hcs body=true)(hn:X.rnd=none)
  {c:Ctx} {vs:Array Value} {args:List AV} (hr:I' c) (hv:TAF c vs args) (hlen:args.length≤X.fn.ntmps) {n0:Nat} {hid:List Nat} (h:Run X [.code body] (AS.start n0 hid args c.H)) (TAj:∀p∈X.tok,TAT c p∧p.ce.H.length≤X.base)
  {R:Ending→World→Prop} (hR:∀v r c',Rep c' v r→I' c'→TAc X.base c c'→X.Q r c'.H→R (.returned v) c'.w) (ho:X.out=none:=by rfl):Calls X.P f vs c.w R :=
 FT hf hb hm hok hn hr hv hlen h TAj (fun l r r1 e=>by rw[ho]at e;cases e) fun v r c' h1 h2 h3 h4=>hR v r c' h1 h2 (by rw[Gw ho]at h3;exact h3) h4
theorem TA3.intro {P:Program}{f:FuncId}{fn:Func}{body:Code}(he:Cf P f)(hf:P.funcs[f]?=some fn)(hb:fn.body=some body)(hm:P.follows .mixedOrders=true){args:List AV}{r:AV}
  (n0:Nat) (hid str hcs:List Nat) (hok:QO fn.ntmps str hcs body=true) (hlen:args.length≤fn.ntmps) (h:Run (JK P fn str hcs r) [.code body] (AS.start n0 hid args [])):TA3 P f args r:=by
 refine⟨he,fun w S vs hS hv=>?_⟩;refine BW (X:=JK P fn str hcs r) (c:=.bare w S) hf hb hm hok rfl (df hS) hv hlen h (fun p hp=>absurd hp (V')) ?_;intro v r' c' h1 h2 h3 h4;refine⟨v,NS c',rfl,h4 c' v rfl h2 h1,fun b hb=>hb.elim (h2.bound b) h2.TBG,?_⟩;exact⟨fun id o ho=>by simp[Ctx.bare]at ho,fun b hb=>.inl (h3.TAe b hb),fun b hb=>by
   rcases hb with hb |hb
   ·exact h3.TA5 b hb
   ·exact(h3.TAx b hb).imp id id |>.elim (fun h=>.inr (.inl h)) (fun h=>absurd h Do),
  fun b hb=>absurd hb Do,fun b hb hn=>h3.same b hb hn,h3.size,h3.os,h3.tape,h3.output⟩
def Ms (P:Program)(fn:Func)(str hcs:List Nat)(base:Nat)(r:AV)(H':List AO):Env:=⟨P,fn,str,hcs,base,none,[],none,fun v H=>v=r∧H=H'⟩
@[simp] theorem TFS (P:Program)(fn:Func)(str hcs:List Nat)(b:Nat)(r:AV)(H:List AO)(s:AS):TD (Ms P fn str hcs b r H) s=Al P fn s:=rfl
theorem G'.intro {P:Program}{f:FuncId}{fn:Func}{body:Code}(he:Cf P f)(hf:P.funcs[f]?=some fn)(hb:fn.body=some body)(hm:P.follows .mixedOrders=true){args:List AV}{H H':List AO}{r:AV}
  (n0:Nat) (hid str hcs:List Nat) (hok:QO fn.ntmps str hcs body=true) (hlen:args.length≤fn.ntmps) (h:Run (Ms P fn str hcs H.length r H') [.code body] (AS.start n0 hid args H)):G' P f args H r H':=by
 refine⟨he,?_⟩;rintro c vs rfl hr hv;refine BW (X:=Ms P fn str hcs c.H.length r H') hf hb hm hok rfl hr hv hlen h (fun p hp=>absurd hp (V')) ?_;rintro v r' ⟨w',S',γ',H''⟩ h1 h2 h3 ⟨rfl,rfl⟩;exact⟨v,S',γ',rfl,h1,h2,h3.TCI (N' _)⟩
def Xm:List AV→List AV→Prop
 |_,[]=>True
 |a :: l,b :: l'=>(b=.any∨a=b)∧Xm l l'
 | [],b :: l'=>b=.any∧Xm [] l'
def Xu (tm:List (Nat×AV)):List (Nat×AV)→Prop
 | []=>True
 | (i,v) :: l=>(v=.any∨XJ tm i=v)∧Xu tm l
theorem HD:∀ {l l':List AV},Xm l l'→∀i,l'.getD i .any=.any∨l.getD i .any=l'.getD i .any
 |l,[],_,i=>.inl (by simp)
 |a :: l,b :: l',h,0=>by simpa using h.1
 |a :: l,b :: l',h,i+1=>by simpa using HD h.2 i
 | [],b :: l',h,0=>.inl (by simpa using h.1)
 | [],b :: l',h,i+1=>by simpa using HD h.2 i
theorem Nv {tm:List (Nat×AV)}:∀ {l:List (Nat×AV)},Xu tm l→∀i,XJ l i=.any∨XJ tm i=XJ l i
 | [],_,i=>.inl rfl
 | (j,v) :: l,h,i=>by
  simp only[XJ];by_cases hi:i=j
  ·subst hi;simpa using h.1
  ·simp only[hi,if_false];exact Nv h.2 i
theorem Xh {m:Nat}{s s':AS}(h1:s'.n0=s.n0)(h3:Xm s.sl s'.sl)(h4:Xu s.tm s'.tm)(h5:s.h=s'.h):Sub m s s':=by
 intro N c a hst;refine⟨c,rfl,(Ext.refl c).toB m,hst.size,hst.defers,fun i=>?_,by rw[←h5];exact hst.heap,hst.H_⟩;have:=hst.TAP i;unfold AS.get at this ⊢;rw[h1]
 split
 ·rename_i hi
  simp only[hi,if_true]at this;rcases HD h3 i with e |e
  ·rw[e];exact .any _
  ·rw[←e];exact this
 ·rename_i hi
  simp only[hi,if_false]at this;rcases Nv h4 i with e |e
  ·rw[e];exact .any _
  ·rw[←e];exact this
def J9 (m:Nat)(a:AV):Prop:=∀ (c:Ctx) v,Rep c v a→Rep ⟨c.w,c.S,c.γ,c.H.take m⟩ v a
theorem X4 {m:Nat}{a:AV}(h:A_ a):J9 m a:=fun c v hv=>IL (h c v hv) _ _
theorem GY {H:List AO}{m id:Nat}(h:id<m):inf (H.take m) id=inf H id:=by simp[inf,ZAV,h]
theorem Gu {H:List AO}{m id ver:Nat}(h:id<m)(hs:TAd H id ver):TAd (H.take m) id ver:=by
 rcases hs with⟨v,hi,hlt⟩ |hd
 ·exact .inl ⟨v,by rw[GY h];exact hi,hlt⟩
 ·exact .inr (by simp[h,hd])
theorem JB {m id ver es off n:Nat}(h:id<m):J9 m (.osl id ver es off n):=fun c v hv=>by
 cases hv with
 |osl _ _ _ _ _ cap b sz hi hg hn TAY hmx=>exact .osl _ _ _ _ _ _ b sz (by rw[←GY h]at hi;exact hi) hg hn TAY hmx
 |TAg _ _ _ _ a hi=>exact .TAg _ _ _ _ _ (by rw[←GY h]at hi;exact hi)
 |TAL _ _ _ _ _ a cap hn hs=>exact .TAL _ _ _ _ _ _ _ hn (Gu h hs)
 |TAE _ _ _ _ a hs=>exact .TAE _ _ _ _ _ (Gu h hs)
theorem QX {m id ver off:Nat}(h:id<m):J9 m (.ref id ver off):=fun c v hv=>by
 cases hv with
 |ref _ _ _ b sz hi hg=>exact .ref _ _ _ b sz (by rw[←GY h]at hi;exact hi) hg
 |TAQ _ _ _ a hs=>exact .TAQ _ _ _ _ (Gu h hs)
theorem oO {m:Nat}{l:List AV}(hl:∀a∈l,J9 m a):J9 m (.agg l):=fun c v hv=>by
 cases hv with
 |agg vs _ hs hr=>exact .agg vs l hs fun j hj=>hl _ (by rw[K',U_ hj];exact ZAP _) c _ (hr j hj)
theorem iJ {m:Nat}{g:FuncId}{l:List AV}(hl:∀a∈l,J9 m a):J9 m (.fn g l):=fun c v hv=>by
 cases hv with
 |fn _ vs _ hs hr=>exact .fn g vs l hs fun j hj=>hl _ (by rw[K',U_ hj];exact ZAP _) c _ (hr j hj)
def XX (m:Nat):AO→Prop
 | .row _ n f=>∀j,j<n→J9 m (f j)
 | .con _ n f=>∀j,j<n→J9 m (f j)
 | .map _ g=>∀n a,g n=some a→J9 m a
 |_=>True
theorem XD {b m:Nat}{s s':AS}(hbm:b≤m)(h1:s'.n0=s.n0)(h3:Xm s.sl s'.sl)(h4:Xu s.tm s'.tm)(h5:s.h.take m=s'.h)
  (h6:∀a∈s'.sl,J9 m a) (h7:∀p∈s'.tm,J9 m p.2) (h8:∀o∈s'.h,XX m o):Sub b s s':=by
 intro N c a hst;have hH:c.H=s.h:=hst.heap;have TAM:∀ (i:Nat) (o:AO),(c.H.take m)[i]?=some o→c.H[i]?=some o∧i<m:=by
  intro i o ho;rw[ZAV]at ho
  split at ho
  ·exact⟨ho,by assumption⟩
  ·cases ho
 have TAU:∀ (i:Nat) (o:AO),(c.H.take m)[i]?=some o→XX m o:=fun i o ho=>h8 o (by rw[←h5,←hH];exact ZAC ho)
 refine⟨⟨c.w,c.S,c.γ,c.H.take m⟩,rfl,?_,hst.size,hst.defers,fun i=>?_,by rw[←h5,hH],?_⟩
 ·refine⟨?_,fun _ h=>h,fun _ h=>.inl h,?_,fun _ _ _=>rfl,N' _,rfl,rfl,rfl⟩
  ·intro id o hlt ho
   have h0:(c.H.take m)[id]?=some o:=by rw[ZAV,N_ (by omega)];exact ho
   cases o with
   |D_=>trivial
   |dead=>exact h0
   |row v _ _=>exact .inr ⟨v,by simp[inf,h0,AO.info],.inr ⟨rfl,rfl⟩⟩
   |con v _ _=>exact .inr ⟨v,by simp[inf,h0,AO.info],.inr ⟨rfl,rfl⟩⟩
   |map k g=>exact .inr ⟨⟨k,g,h0⟩,rfl⟩
  ·rintro x ⟨id,o,sz,ho,TAO,hg⟩
   exact .inr ⟨id,o,sz,(TAM id o ho).1,TAO,hg⟩
 ·have:=hst.TAP i
  unfold AS.get at this ⊢;rw[h1]
  split
  ·rename_i hi
   simp only[hi,if_true]at this;have hb:J9 m (s'.sl.getD i .any):=by
    rw[K'];cases hx:s'.sl[i]? with
    |none=>exact fun _ v _=>.any v
    |some x=>exact h6 _ (ZAC hx)
   rcases HD h3 i with e |e
   ·rw[e];exact .any _
   ·rw[e]at this;exact hb c _ this
  ·rename_i hi
   simp only[hi,if_false]at this;have hb:J9 m (XJ s'.tm i):=by
    have:∀l:List (Nat×AV),(∀p∈l,J9 m p.2)→J9 m (XJ l i):=by
     intro l
     induction l with
     |nil=>exact fun _ _ v _=>.any v
     |cons x l ih =>
      intro hl;obtain⟨j,v⟩:=x;simp only[XJ]
      split
      ·exact hl (j,v) (by simp)
      ·exact ih fun p hp=>hl p (by simp[hp])
    exact this _ h7
   rcases Nv h4 i with e |e
   ·rw[e];exact .any _
   ·rw[e]at this;exact hb c _ this
 ·refine⟨?_,?_,?_,?_,hst.H_.bound⟩
  ·intro id v n f ho
   have hb:=TAU _ _ ho;rcases hst.H_.row id v n f (TAM _ _ ho).1 with h | ⟨b,sz,cs,el,g1,g2,g3,g4,g5,g6⟩
   ·exact .inl h
   ·exact .inr ⟨b,sz,cs,el,g1,g2,g3,g4,g5,fun j hj=>hb j hj c _ (g6 j hj)⟩
  ·intro id v n f ho
   have hb:=TAU _ _ ho;rcases hst.H_.con id v n f (TAM _ _ ho).1 with h | ⟨b,sz,cs,el,fr,g1,g2,g3,g4,g5,g6⟩
   ·exact .inl h
   ·exact .inr ⟨b,sz,cs,el,fr,g1,g2,g3,g4,g5,fun j hj=>hb j hj c _ (g6 j hj)⟩
  ·intro id k g ho
   have hb:=TAU _ _ ho;obtain⟨b,sz,es,cl,g1,g2,g3,g4⟩:=hst.H_.map id k g (TAM _ _ ho).1;exact⟨b,sz,es,cl,g1,g2,g3,g4.keys,g4.uniq,fun n a hn=>let ⟨e,he,hk,hr⟩:=g4.hit n a hn; ⟨e,he,hk,hb n a hn c _ hr⟩,g4.TB5⟩
  ·intro i i' o o' b sz sz' ho ho' g1 g2 hg hg'
   exact hst.H_.inj _ _ _ _ _ _ _ (TAM _ _ ho).1 (TAM _ _ ho').1 g1 g2 hg hg'
theorem Xi {X:Env}{ι:Type}{body:Code}{k:List Item}{s:AS}(st:ι→AS)(inv:ι→Prop)(μ:ι→Nat)(i0:ι)(h0:inv i0)(hs:Sub X.base s (st i0))
  (round:∀i,inv i→(∀j s',inv j→μ j<μ i→Sub X.base s' (st j)→Run X (.inLoop body :: k) s')→Run X (.code body :: .inLoop body :: k) (st i)):Run X (.code (.loop body) :: k) s:=by
 have key:∀n i,μ i=n→inv i→Run X (.code body :: .inLoop body :: k) (st i):=by
  intro n
  induction n using Nat.strongRecOn with
  |_ n ih =>
   intro i hn hi;refine round i hi fun j s' hj hlt TDK=>?_
   exact E0 ((ih (μ j) (by omega) j rfl hj).sub TDK)
 exact FD ((key _ i0 rfl h0).sub hs)
end
end Go.Ab
namespace Go.Ab
open Go Go.RowKit
noncomputable section
section
variable (X:Env) (n:Nat) (k:List Item) (s:AS)
theorem xg (a b:Code):vc X (n+1) (.code (.seq a b) :: k) s=vc X n (.code a :: .code b :: k) s:=C_ rfl
theorem s9:vc X (n+1) (.code .skip :: k) s=vc X n k s:=C_ rfl
theorem ns (l:Nat):vc X (n+1) (.code (.label l) :: k) s=vc X n k s:=C_ rfl
theorem np (i:Nat)(b:Code):vc X (n+1) (.code (.block i b) :: k) s=vc X n (.code b :: .inBlock i :: k) s:=C_ rfl
theorem nt (b:Code):vc X (n+1) (.code (.scope b) :: k) s=vc X n (.code b :: .inScope b :: k) s:=C_ rfl
theorem Wn (i:Nat):vc X (n+1) (.inBlock i :: k) s=vc X n k s:=C_ rfl
theorem Wo (c:Code):vc X (n+1) (.inScope c :: k) s=vc X n k s:=C_ rfl
theorem s8 (i:Nat):vc X (n+1) (.code (.exit i) :: k) s=match exitTo i k with |some k'=>vc X n k' s |none=>False:=rfl
theorem rZ (o:Operand)(a b:Code):vc X (n+1) (.code (.cond o a b) :: k) s=match s.ev o with
 | .bool t=>(t=true→vc X n (.code a :: k) s)∧(t=false→vc X n (.code b :: k) s)
 | .TAf=>vc X n (.code a :: k) s∧vc X n (.code b :: k) s
 |_=>False:=rfl
variable (all:Array Oper) (st:Nat→Bool) (hc:Bool) (bs:Option Nat) (i nx:Nat) (os:List Oper)
theorem fX (M:Md):Xy X (n+1) M [] k s=vc X n k s:=C_ rfl
theorem La (M:Md)(d:Option Nat)(op:Op)(t:TypeId)(p:String)(af:Array Edge)(j:Nat)(want:Bool):Xy X (n+1) M (⟨d,op,t,p,af,some (j,want)⟩ :: os) k s =
  match (M.all[j]?).bind (·.dst)with
  |some e=>match s.get e with
    | .bool b=>(b=true→if want=true then Qq X n M ⟨d,op,t,p,af,some (j,want)⟩ os k (s.fix e (.bool true))else Xy X n (M.next ⟨d,op,t,p,af,some (j,want)⟩) os k ((s.fix e (.bool true)).E' d XW)) ∧
                 (b=false→if want=false then Qq X n M ⟨d,op,t,p,af,some (j,want)⟩ os k (s.fix e (.bool false))else Xy X n (M.next ⟨d,op,t,p,af,some (j,want)⟩) os k ((s.fix e (.bool false)).E' d XW))
    | .tup []=>Xy X n (M.next ⟨d,op,t,p,af,some (j,want)⟩) os k (s.E' d XW)
    |_=>False
  |none=>False:=rfl
theorem dU (b:Nat)(o:Oper):Md.next ⟨all,st,hc,some b,i,nx⟩ o=⟨all,st,hc,some b,i+1,if QH hc o.op=2 then nx+1 else nx⟩:=rfl
theorem Ji (M:Md)(o:Oper)(h1:AL o.op=none)(h2:QH M.B' o.op≠2) :
 Qq X (n+1) M o os k s=Q3 (Jb X.P (M.strict M.i) none o.op s.ev s.h) fun r=>Xy X n (M.next o) os k (({ s with h:=r.2 }:AS).E' o.dst r.1):=by
 unfold Qq;simp only[h1];cases M.base with
 |none=>rfl
 |some b=>simp only[h2,if_false]
theorem D6 (o:Oper)(h1:AL o.op=none) :
 Qq X (n+1) ⟨all,st,hc,none,i,nx⟩ o os k s=Q3 (Jb X.P (st i) none o.op s.ev s.h) fun r=>Xy X n ⟨all,st,hc,none,i+1,nx⟩ os k (({ s with h:=r.2 }:AS).E' o.dst r.1):=by
 unfold Qq;simp only[h1];rfl
theorem Od (b:Nat)(o:Oper)(h1:AL o.op=none)(h2:QH hc o.op=2) :
 Qq X (n+1) ⟨all,st,hc,some b,i,nx⟩ o os k s=(s.h[nx]?=some .D_∧Q3 (Jb X.P (st i) (some nx) o.op s.ev s.h) fun r=>Xy X n ⟨all,st,hc,some b,i+1,nx+1⟩ os k (({ s with h:=r.2 }:AS).E' o.dst r.1)):=by
 unfold Qq;simp only[h1,h2,if_true,Md.next]
end
theorem Cb {α β:Type}(f:α→β)(o:Option α)(K:β→Prop):Q3 (o.map f) K=Q3 o (fun x=>K (f x)):=by
 unfold Q3;cases o <;> simp
section
variable (X:Env) (n:Nat) (k:List Item) (s:AS) (all:Array Oper) (st:Nat→Bool) (hc:Bool) (bs:Option Nat) (i nx:Nat) (os:List Oper) (d:Option Nat) (t:TypeId) (p:String) (af:Array Edge) (g:Option (Nat×Bool))
theorem Je (M:Md)(o:Oper)(h2:QH M.B' o.op≠2):M.next o={ M with i:=M.i+1 }:=by
 unfold Md.next;cases M.base with
 |none=>rfl
 |some b=>simp[h2]
theorem L6 (o:Op)(v:AV)(h1:AL o=none)(h2:QH hc o≠2)(h3:Jb X.P (st i) none o s.ev s.h=some (v,s.h)) :
 Qq X (n+1) ⟨all,st,hc,bs,i,nx⟩ ⟨d,o,t,p,af,g⟩ os k s=Xy X n ⟨all,st,hc,bs,i+1,nx⟩ os k (s.E' d v):=by
 rw[Ji (h1:=h1) (h2:=h2),h3,TAu,Je (h2:=h2)]
theorem ZJ (o:Op)(q:Option AV)(h1:AL o=none)(h2:QH hc o≠2)(h3:Jb X.P (st i) none o s.ev s.h=q.map fun v=>(v,s.h)) :
 Qq X (n+1) ⟨all,st,hc,bs,i,nx⟩ ⟨d,o,t,p,af,g⟩ os k s=Q3 q fun v=>Xy X n ⟨all,st,hc,bs,i+1,nx⟩ os k (s.E' d v):=by
 rw[Ji (h1:=h1) (h2:=h2),h3,Cb,Je (h2:=h2)]
theorem fU (o:Op)(q:Option (List AO)) (h1:AL o=none) (h2:QH hc o≠2) (h3:Jb X.P (st i) none o s.ev s.h=q.map fun h'=>(XW,h')) :
 Qq X (n+1) ⟨all,st,hc,bs,i,nx⟩ ⟨d,o,t,p,af,g⟩ os k s=Q3 q fun h'=>Xy X n ⟨all,st,hc,bs,i+1,nx⟩ os k (({ s with h:=h' }:AS).E' d XW):=by
 rw[Ji (h1:=h1) (h2:=h2),h3,Cb,Je (h2:=h2)]
theorem YD (x:Operand):Qq X (n+1) ⟨all,st,hc,bs,i,nx⟩ ⟨d,.move x,t,p,af,g⟩ os k s=Xy X n ⟨all,st,hc,bs,i+1,nx⟩ os k (s.E' d (s.ev x)):=L6 _ _ _ _ _ _ _ _ _ _ _ _ _ _ _ _ _ _ rfl (by simp[QH]) rfl
theorem OY (x:Operand):Qq X (n+1) ⟨all,st,hc,bs,i,nx⟩ ⟨d,.assign x,t,p,af,g⟩ os k s=Xy X n ⟨all,st,hc,bs,i+1,nx⟩ os k (s.E' d (s.ev x)):=L6 _ _ _ _ _ _ _ _ _ _ _ _ _ _ _ _ _ _ rfl (by simp[QH]) rfl
theorem Yz (u:TypeId)(x:Operand):Qq X (n+1) ⟨all,st,hc,bs,i,nx⟩ ⟨d,.load u x,t,p,af,g⟩ os k s=Q3 (Qx X.P (st i) u (s.ev x) s.h) fun v=>Xy X n ⟨all,st,hc,bs,i+1,nx⟩ os k (s.E' d v):=ZJ _ _ _ _ _ _ _ _ _ _ _ _ _ _ _ _ _ _ rfl (by simp[QH]) rfl
theorem lI (o:BinOp)(u u':TypeId)(x y:Operand):Qq X (n+1) ⟨all,st,hc,bs,i,nx⟩ ⟨d,.binOp o u x y u',t,p,af,g⟩ os k s=Q3 (LR X.P o u y (s.ev x) (s.ev y)) fun v=>Xy X n ⟨all,st,hc,bs,i+1,nx⟩ os k (s.E' d v):=ZJ _ _ _ _ _ _ _ _ _ _ _ _ _ _ _ _ _ _ rfl (by simp[QH]) rfl
theorem tD (o:UnOp)(u:TypeId)(x:Operand):Qq X (n+1) ⟨all,st,hc,bs,i,nx⟩ ⟨d,.unOp o u x,t,p,af,g⟩ os k s=Q3 (uG o (s.ev x)) fun v=>Xy X n ⟨all,st,hc,bs,i+1,nx⟩ os k (s.E' d v):=ZJ _ _ _ _ _ _ _ _ _ _ _ _ _ _ _ _ _ _ rfl (by simp[QH]) rfl
theorem Yx (u u':TypeId)(x:Operand):Qq X (n+1) ⟨all,st,hc,bs,i,nx⟩ ⟨d,.convert u u' x,t,p,af,g⟩ os k s=Q3 (Og X.P u u' (s.ev x)) fun v=>Xy X n ⟨all,st,hc,bs,i+1,nx⟩ os k (s.E' d v):=ZJ _ _ _ _ _ _ _ _ _ _ _ _ _ _ _ _ _ _ rfl (by simp[QH]) rfl
theorem Hd (u:TypeId)(x y:Operand):Qq X (n+1) ⟨all,st,hc,bs,i,nx⟩ ⟨d,.indexAddr u x y,t,p,af,g⟩ os k s=Q3 (DB X.P u (s.ev x) (s.ev y)) fun v=>Xy X n ⟨all,st,hc,bs,i+1,nx⟩ os k (s.E' d v):=ZJ _ _ _ _ _ _ _ _ _ _ _ _ _ _ _ _ _ _ rfl (by simp[QH]) rfl
theorem Hc (u:TypeId)(x:Operand)(j:Nat):Qq X (n+1) ⟨all,st,hc,bs,i,nx⟩ ⟨d,.fieldAddr u x j,t,p,af,g⟩ os k s=Q3 (CG X.P u (s.ev x) j) fun v=>Xy X n ⟨all,st,hc,bs,i+1,nx⟩ os k (s.E' d v):=ZJ _ _ _ _ _ _ _ _ _ _ _ _ _ _ _ _ _ _ rfl (by simp[QH]) rfl
theorem Ti (u:TypeId)(x:Operand)(j:Nat):Qq X (n+1) ⟨all,st,hc,bs,i,nx⟩ ⟨d,.field u x j,t,p,af,g⟩ os k s=Q3 (HS X.P u (s.ev x) j) fun v=>Xy X n ⟨all,st,hc,bs,i+1,nx⟩ os k (s.E' d v):=ZJ _ _ _ _ _ _ _ _ _ _ _ _ _ _ _ _ _ _ rfl (by simp[QH]) rfl
theorem Tg (u:TypeId)(ps:Array (Nat×Operand)):Qq X (n+1) ⟨all,st,hc,bs,i,nx⟩ ⟨d,.build u ps,t,p,af,g⟩ os k s=Q3 (G8 X.P u (ps.toList.map fun q=>(q.1,s.ev q.2))) fun v=>Xy X n ⟨all,st,hc,bs,i+1,nx⟩ os k (s.E' d v):=ZJ _ _ _ _ _ _ _ _ _ _ _ _ _ _ _ _ _ _ rfl (by simp[QH]) rfl
def xZ (st:Bool)(P:Program)(u:TypeId)(m:Nat)(ps:List (Nat×AV)) (h:List AO) (K:AV→List AO→Prop):Prop :=
 if st=true then Q3 (Zo P u m ps h) fun r=>K r.1 r.2 else Q3 (Ki P u m ps) fun v=>K v h
theorem G0 (u:TypeId)(m:Nat)(ps:Array (Nat×Operand)):Qq X (n+1) ⟨all,st,hc,bs,i,nx⟩ ⟨d,.buildSlice u m ps,t,p,af,g⟩ os k s=xZ (st i) X.P u m (ps.toList.map fun q=>(q.1,s.ev q.2)) s.h fun v h'=>Xy X n ⟨all,st,hc,bs,i+1,nx⟩ os k (({ s with h:=h' }:AS).E' d v):=by
 rw[Ji (h1:=rfl) (h2:=by simp[QH]),Je (h2:=by simp[QH])];unfold xZ;show Q3 (if st i=true then Zo X.P u m (ps.toList.map fun q=>(q.1,s.ev q.2)) s.h else(Ki X.P u m (ps.toList.map fun q=>(q.1,s.ev q.2))).map fun v=>(v,s.h)) _=_;by_cases h:st i=true
 ·rw[N_ h,N_ h]
 ·rw[M_ h,M_ h,Cb]
theorem Tk (u:TypeId)(x y:Operand):Qq X (n+1) ⟨all,st,hc,bs,i,nx⟩ ⟨d,.store u x y,t,p,af,g⟩ os k s=Q3 (Zv X.P (st i) u (s.ev x) (s.ev y) s.h) fun h'=>Xy X n ⟨all,st,hc,bs,i+1,nx⟩ os k (({ s with h:=h' }:AS).E' d XW):=fU _ _ _ _ _ _ _ _ _ _ _ _ _ _ _ _ _ _ rfl (by simp[QH]) rfl
theorem IJ (x:Operand):Qq X (n+1) ⟨all,st,hc,bs,i,nx⟩ ⟨d,.nilCheck x,t,p,af,g⟩ os k s=((s.ev x).TAk=true∧Xy X n ⟨all,st,hc,bs,i+1,nx⟩ os k (s.E' d (s.ev x))):=by
 rw[Ji (h1:=rfl) (h2:=by simp[QH]),Je (h2:=by simp[QH])];show Q3 (Qd _ (some (s.ev x,s.h))) _=_;rw[TA0,TAu]
theorem Tj (u:TypeId)(x:Operand)(lo hi:Option Operand):Qq X (n+1) ⟨all,st,hc,bs,i,nx⟩ ⟨d,.slice u x lo hi none,t,p,af,g⟩ os k s =
  Q3 (Es X.P u (s.ev x) (lo.map s.ev) (hi.map s.ev) none) fun v=>Xy X n ⟨all,st,hc,bs,i+1,nx⟩ os k (s.E' d v):=by
 rw[Ji (h1:=rfl) (h2:=by simp[QH]),Je (h2:=by simp[QH])];show Q3 (Qd _ (zV _ _)) _=_;rw[TA0,Cb];simp
theorem OZ (u:TypeId)(x:Operand)(lo:Option Operand)(hi mx:Operand):Qq X (n+1) ⟨all,st,hc,bs,i,nx⟩ ⟨d,.slice u x lo (some hi) (some mx),t,p,af,g⟩ os k s =
  Q3 (Es X.P u (s.ev x) (lo.map s.ev) (some (s.ev hi)) (some (s.ev mx))) fun v=>Xy X n ⟨all,st,hc,bs,i+1,nx⟩ os k (s.E' d v):=by
 rw[Ji (h1:=rfl) (h2:=by simp[QH]),Je (h2:=by simp[QH])];show Q3 (Qd _ (zV _ _)) _=_;rw[TA0,Cb];simp
theorem qU (x y z:Operand):Qq X (n+1) ⟨all,st,hc,bs,i,nx⟩ ⟨d,.pick x y z,t,p,af,g⟩ os k s=(match s.ev x with
  | .bool true=>Xy X n ⟨all,st,hc,bs,i+1,nx⟩ os k (s.E' d (s.ev y))
  | .bool false=>Xy X n ⟨all,st,hc,bs,i+1,nx⟩ os k (s.E' d (s.ev z))
  |_=>False):=by
 rw[Ji (h1:=rfl) (h2:=by simp[QH]),Je (h2:=by simp[QH])];simp only[Jb];cases hx:s.ev x with
 |bool b=>cases b <;> simp
 |_=>simp
theorem VP (x:Operand)(j:Nat):Qq X (n+1) ⟨all,st,hc,bs,i,nx⟩ ⟨d,.extract x j,t,p,af,g⟩ os k s=(match s.ev x with
  | .tup l=>j<l.length∧Xy X n ⟨all,st,hc,bs,i+1,nx⟩ os k (s.E' d (l.getD j .any))
  |_=>False):=by
 rw[Ji (h1:=rfl) (h2:=by simp[QH]),Je (h2:=by simp[QH])];simp only[Jb];cases hx:s.ev x <;> simp
theorem IH (f:FuncId)(G_:Array Operand):Qq X (n+1) ⟨all,st,hc,bs,i,nx⟩ ⟨d,.makeFunc (.func f) #[] G_,t,p,af,g⟩ os k s=Xy X n ⟨all,st,hc,bs,i+1,nx⟩ os k (s.E' d (.fn f (G_.toList.map s.ev))):=by
 rw[Ji (h1:=rfl) (h2:=by simp[QH]),Je (h2:=by simp[QH])];simp only[Jb];rw[show lh f ((#[]:Array Operand).toList.map s.ev) (G_.toList.map s.ev)=some (.fn f (G_.toList.map s.ev))from rfl];simp
theorem II (f:FuncId)(r:Operand):Qq X (n+1) ⟨all,st,hc,bs,i,nx⟩ ⟨d,.makeFunc (.func f) #[r] #[],t,p,af,g⟩ os k s=Xy X n ⟨all,st,hc,bs,i+1,nx⟩ os k (s.E' d (.mfn f (s.ev r))):=by
 rw[Ji (h1:=rfl) (h2:=by simp[QH]),Je (h2:=by simp[QH])];simp only[Jb];rw[show lh f ((#[r]:Array Operand).toList.map s.ev) ((#[]:Array Operand).toList.map s.ev)=some (.mfn f (s.ev r))from rfl];simp
theorem lK (x:Operand)(u:TypeId):Qq X (n+1) ⟨all,st,hc,bs,i,nx⟩ ⟨d,.call { callee:=.builtin .len,args:=#[x],argTypes:=#[u] },t,p,af,g⟩ os k s =
  Q3 (NR X.P u (s.ev x)) fun v=>Xy X n ⟨all,st,hc,bs,i+1,nx⟩ os k (s.E' d v):=ZJ _ _ _ _ _ _ _ _ _ _ _ _ _ _ _ _ _ _ rfl (by simp[QH]) rfl
theorem lN (x y:Operand)(us:Array TypeId):Qq X (n+1) ⟨all,st,hc,bs,i,nx⟩ ⟨d,.call { callee:=.builtin .min,args:=#[x,y],argTypes:=us },t,p,af,g⟩ os k s =
  Q3 (aT (s.ev x) (s.ev y)) fun v=>Xy X n ⟨all,st,hc,bs,i+1,nx⟩ os k (s.E' d v):=ZJ _ _ _ _ _ _ _ _ _ _ _ _ _ _ _ _ _ _ rfl (by simp[QH]) rfl
theorem lM (x y:Operand)(us:Array TypeId):Qq X (n+1) ⟨all,st,hc,bs,i,nx⟩ ⟨d,.call { callee:=.builtin .max,args:=#[x,y],argTypes:=us },t,p,af,g⟩ os k s =
  Q3 (aS (s.ev x) (s.ev y)) fun v=>Xy X n ⟨all,st,hc,bs,i+1,nx⟩ os k (s.E' d v):=ZJ _ _ _ _ _ _ _ _ _ _ _ _ _ _ _ _ _ _ rfl (by simp[QH]) rfl
theorem OX (x y:Operand)(u:TypeId):Qq X (n+1) ⟨all,st,hc,bs,i,nx⟩ ⟨d,.call { callee:=.builtin .append,args:=#[x,y],argTypes:=#[u,u] },t,p,af,g⟩ os k s =
  Q3 (QW X.P u (s.ev x) (s.ev y) s.h) fun r=>Xy X n ⟨all,st,hc,bs,i+1,nx⟩ os k (({ s with h:=r.2 }:AS).E' d r.1):=by
 rw[Ji (h1:=rfl) (h2:=by simp[QH]),Je (h2:=by simp[QH])];show Q3 (if u=u then _ else _) _=_;rw[N_ rfl]
theorem Yy (x y:Operand)(u u':TypeId):Qq X (n+1) ⟨all,st,hc,bs,i,nx⟩ ⟨d,.call { callee:=.builtin .copy,args:=#[x,y],argTypes:=#[u,u'] },t,p,af,g⟩ os k s =
  Q3 (FQ X.P u (s.ev x) (s.ev y) s.h) fun r=>Xy X n ⟨all,st,hc,bs,i+1,nx⟩ os k (({ s with h:=r.2 }:AS).E' d r.1):=by
 rw[Ji (h1:=rfl) (h2:=by simp[QH]),Je (h2:=by simp[QH])];rfl
theorem MX (x y:Operand)(u u':TypeId)(hne:u≠u'):Qq X (n+1) ⟨all,st,hc,bs,i,nx⟩ ⟨d,.call { callee:=.builtin .append,args:=#[x,y],argTypes:=#[u,u'] },t,p,af,g⟩ os k s =
  Q3 (K3 X.P u u' (s.ev x) (s.ev y) s.h) fun r=>Xy X n ⟨all,st,hc,bs,i+1,nx⟩ os k (({ s with h:=r.2 }:AS).E' d r.1):=by
 rw[Ji (h1:=rfl) (h2:=by simp[QH]),Je (h2:=by simp[QH])];show Q3 (if u=u' then _ else _) _=_;rw[M_ hne]
theorem Tf (u:TypeId):Qq X (n+1) ⟨all,st,hc,none,i,nx⟩ ⟨d,.alloc u,t,p,af,g⟩ os k s =
  Q3 (Bf X.P none u s.h) fun r=>Xy X n ⟨all,st,hc,none,i+1,nx⟩ os k (({ s with h:=r.2 }:AS).E' d r.1):=D6 _ _ _ _ _ _ _ _ _ _ _ rfl
theorem lJ (u:TypeId)(x:Operand):Qq X (n+1) ⟨all,st,hc,none,i,nx⟩ ⟨d,.box u x,t,p,af,g⟩ os k s =
  Q3 (NN none (s.ev x) s.h) fun r=>Xy X n ⟨all,st,hc,none,i+1,nx⟩ os k (({ s with h:=r.2 }:AS).E' d r.1):=D6 _ _ _ _ _ _ _ _ _ _ _ rfl
theorem YB (u:TypeId)(x y:Operand):Qq X (n+1) ⟨all,st,hc,none,i,nx⟩ ⟨d,.makeSlice u x y,t,p,af,g⟩ os k s =
  Q3 (Ed X.P none u (s.ev x) (s.ev y) s.h) fun r=>Xy X n ⟨all,st,hc,none,i+1,nx⟩ os k (({ s with h:=r.2 }:AS).E' d r.1):=D6 _ _ _ _ _ _ _ _ _ _ _ rfl
variable (b:Nat)
theorem OW (u:TypeId):Qq X (n+1) ⟨all,st,hc,some b,i,nx⟩ ⟨d,.alloc u,t,p,af,g⟩ os k s =
  (s.h[nx]?=some .D_∧Q3 (Bf X.P (some nx) u s.h) fun r=>Xy X n ⟨all,st,hc,some b,i+1,nx+1⟩ os k (({ s with h:=r.2 }:AS).E' d r.1)):=Od _ _ _ _ _ _ _ _ _ _ _ _ rfl rfl
variable (n0:Nat) (hid:List Nat) (sl:List AV) (tm:List (Nat×AV)) (h:List AO)
theorem vD (t:Nat):AS.ev ⟨n0,hid,sl,tm,h⟩ (.tmp t)=if t<n0 then sl.getD t .any else XJ tm t:=C_ rfl
theorem jK (s:AS)(v:Value):s.ev (.const v)=Ou v:=C_ rfl
theorem pH (s:AS)(f:FuncId):s.ev (.func f)=.fn f []:=C_ rfl
theorem qy (t:Nat):AS.get ⟨n0,hid,sl,tm,h⟩ t=if t<n0 then sl.getD t .any else XJ tm t:=C_ rfl
theorem eE (i:Nat)(v:AV):AS.E' ⟨n0,hid,sl,tm,h⟩ (some i) v=if i<n0 then⟨n0,hid,sl.set i v,tm,h⟩else⟨n0,hid,sl,(i,v) :: tm,h⟩:=C_ rfl
theorem eD (s:AS)(v:AV):s.E' none v=s:=C_ rfl
theorem pL (i:Nat)(v:AV):AS.fix ⟨n0,hid,sl,tm,h⟩ i v=if i<n0 then⟨n0,hid,sl.set i v,tm,h⟩else⟨n0,hid,sl,Nf tm i v,h⟩:=C_ rfl
theorem pu:AS.clr ⟨n0,[],sl,tm,h⟩=⟨n0,[],sl,[],h⟩:=by simp[AS.clr]
def Iz (hid:List Nat):List (Nat×AV)→List (Nat×AV)
 | []=>[]
 | (i,v) :: l=>if hid.contains i=true then(i,v) :: Iz hid l else Iz hid l
theorem pt (j:Nat)(TBT:List Nat):AS.clr ⟨n0,j :: TBT,sl,tm,h⟩=⟨n0,j :: TBT,sl,Iz (j :: TBT) tm,h⟩:=by
 unfold AS.clr;congr 1;show tm.filter (fun p=>(j :: TBT).contains p.1)=_
 induction tm with
 |nil=>rfl
 |cons x l ih =>
  obtain⟨i,v⟩:=x;simp only[ZC8,Iz,ih]
def Gc (B':Bool):List Oper→Nat
 | []=>0
 |o :: os=>(if QH B' o.op=2 then 1 else 0)+Gc B' os
theorem cJ (B':Bool)(ops:Array Oper):Ew B' ops=Gc B' ops.toList:=by
 unfold Ew
 induction ops.toList with
 |nil=>rfl
 |cons o os ih =>
  simp only[ZC8,Gc];by_cases hc:QH B' o.op=2
  ·simp[hc,ih];omega
  ·simp[hc,ih]
theorem cK (B':Bool)(ops:Array Oper):Ez B' ops ⟨n0,hid,sl,tm,h⟩ =
  ⟨n0,hid,sl,(AS.clr ⟨n0,hid,sl,tm,h⟩).tm,h ++ ZAJ (Gc B' ops.toList) .D_⟩:=by
 unfold Ez;rw[cJ];rfl
end
theorem pB (k:IntKind)(n:Int):Ou (.int k n)=.int k n:=C_ rfl
theorem jj (b:Bool):Ou (.bool b)=.bool b:=C_ rfl
theorem pC:Ou (.pointer none)=.nil:=C_ rfl
theorem uU:Ou (.slice none 0 0)=.sl 0 0 (fun _=>.any) true:=C_ rfl
theorem uT:Ou .nilFunc=.TBe:=C_ rfl
def J0 {α:Type}(e:α→AV)(d:α)(l:List α):Nat→AV:=fun j=>e (l.getD j d)
def QE {α:Type}(e:α→AV)(d:α)(l:List α):AV:=.sl l.length l.length (J0 e d l) false
def I (n:Int):AV:=.int .i64 n
def X8 (l:List Int):AV:=QE I 0 l
def CH (l:List Bool):AV:=QE AV.bool false l
def Dm (l:List (List Int)):AV:=QE X8 [] l
def Xv {α:Type}(e:α→List AV)(s:Nat)(d:α)(l:List α):Nat→AV:=fun j=>(e (l.getD (j/s) d)).getD (j%s) .any
def g8 {α:Type}(e:α→List AV)(s:Nat)(d:α)(l:List α):AV:=.sl l.length (l.length*s) (Xv e s d l) false
theorem JE {α:Type}(e:α→List AV)(s:Nat)(d:α)(l:List α)(i j:Nat)(hj:j<s):Xv e s d l (i*s+j)=(e (l.getD i d)).getD j .any:=by
 unfold Xv;rw[ZA4,Nat.mul_add_div (by omega),Nat.mul_add_mod,Nat.div_eq_of_lt hj,ZAB hj,ZAn]
theorem Kg {α:Type}(e:α→List AV)(s:Nat)(d:α)(l:List α)(i:Nat)(hj:0<s):Xv e s d l (i*s)=(e (l.getD i d)).getD 0 .any:=by
 simpa using JE e s d l i 0 hj
theorem Bq {α:Type}(e:α→AV)(d:α)(l:List α)(j:Nat):J0 e d l j=e (l.getD j d):=C_ rfl
theorem xx (n:Int):I n=.int .i64 n:=C_ rfl
theorem X9 (n:Int):A_ (I n):=Jn _ _
theorem EU {α:Type}{e:α→AV}{d:α}{l:List α}(h:∀a,A_ (e a)):A_ (QE e d l):=QF fun _ _=>h _
theorem Xc (l:List Int):A_ (X8 l):=EU X9
theorem Ob (l:List Bool):A_ (CH l):=EU X5
theorem K4 (l:List (List Int)):A_ (Dm l):=EU Xc
theorem Xe {l:List AV}(hl:∀ a∈l,A_ a)(j:Nat):A_ (l.getD j .any):=by
 rw[K'];cases hx:l[j]? with
 |none=>exact Jm
 |some x=>exact hl _ (ZAC hx)
theorem KZ {α:Type}{e:α→List AV}{s:Nat}{d:α}{l:List α}(h:∀a,∀x∈e a,A_ x):A_ (g8 e s d l):=QF fun _ _=>Xe (h _) _
theorem iB {α:Type}(e:α→AV)(d:α)(l m:List α):Q1 (l.length*1) (J0 e d l) (m.length*1) (J0 e d m)=J0 e d (l ++ m):=by
 funext j;unfold Q1 J0;simp only[ZCN,K'];by_cases h1:j<l.length
 ·rw[N_ h1,S_ h1]
 ·rw[M_ h1,d_ (by omega)]
  by_cases h2:j<l.length+m.length
  ·rw[N_ h2]
  ·rw[M_ h2,j_ (by omega),j_ (by omega)]
theorem iA {α:Type}(e:α→AV)(d:α)(l:List α)(x:α):Q1 (l.length*1) (J0 e d l) (1*1) (Xf [e x])=J0 e d (l ++ [x]):=by
 rw[←iB e d l [x]];funext j;unfold Q1 Xf J0;simp only[ZAF,ZAc,ZCN,x_];by_cases h1:j<l.length
 ·rw[N_ h1,N_ h1]
 ·by_cases h2:j<l.length+1
  ·obtain rfl:j=l.length:=by omega
   simp
  ·rw[M_ h1,M_ h2,M_ h1,M_ h2]
theorem rW {α:Type}(e:α→AV)(d:α)(l:List α)(i:Nat)(x:α)(h:i<l.length):Ek (J0 e d l) i (e x)=J0 e d (l.set i x):=by
 funext j;unfold Ek J0;simp only[K'];by_cases hj:j=i
 ·subst hj;simp[h]
 ·rw[M_ hj,L_ (v_ hj)]
theorem rV (l:List AV)(i:Nat)(a:AV)(h:i<l.length):Ek (Xf l) i a=Xf (l.set i a):=by
 funext j;unfold Ek Xf;simp only[K'];by_cases hj:j=i
 ·subst hj;simp[h]
 ·rw[M_ hj,L_ (v_ hj)]
structure Fn (P:Program)(f:FuncId)(args:List AV)(r:AV):Prop where
 call:TA3 P f args r
 settled:∀a∈args,A_ a
theorem X2 {X:Env}{M:Md}{o:Oper}{g:FuncId}{G_ args as':List AV}{K:AS→Prop}{s:AS}{r:AV}(h:Fn X.P g as' r)(ha:(args ++ G_).map AV.loose=as') (hK:K (s.E' o.dst r)) :
  Gy X M o (.fn g G_) args K s:=by
 subst ha;exact⟨r,s.h,⟨.inl g,args ++ G_,rfl,.inl ⟨_,Lb _,h.call,h.settled,rfl⟩⟩,hK⟩
theorem X0 {X:Env}{M:Md}{o:Oper}{g:FuncId}{G_ args as':List AV}{K:AS→Prop}{s:AS}{r:AV}(h:Fn X.P g as' r)(ha:TAR (args ++ G_) as') (hK:K (s.E' o.dst r)) :
  Gy X M o (.fn g G_) args K s :=
 ⟨r,s.h,⟨.inl g,args ++ G_,rfl,.inl ⟨_,ha,h.call,h.settled,rfl⟩⟩,hK⟩
theorem sc {n m m':Nat}{f f':Nat→AV}{t:Bool}(hm:m'≤m)(hf:∀j,j<m'→f j=f' j):B_ (.sl n m f t) (.sl n m' f' false):=fun c v h=>by
 cases h with
 |sl b base _ _ cap _ _ us hS hc hr hn ht=>exact .sl b base n m' cap f' false us hS (fun j hj=>hc j (by omega)) (fun j hj=>by rw[←hf j hj];exact hr j (by omega)) hn (by simp)
 |slz a cap _ _ ht =>
  obtain rfl:m'=0:=by omega
  exact .slz _ _ _ _ (by simp)
theorem Oq {X:Env}{M:Md}{o:Oper}{g:FuncId}{G_ args as':List AV}{K:AS→Prop}{s:AS}{r:AV}(h:Fn X.P g as' r)(hst:M.strict M.i=false)(ha:TBQ s.h ((args ++ G_).map AV.loose) as') (hf:od r) (hK:K (s.E' o.dst r)) :
  Gy X M o (.fn g G_) args K s :=
 ⟨r,s.h,⟨.inl g,args ++ G_,rfl,.inr (.inl ⟨hst,as',ha,h.call,hf,rfl⟩)⟩,hK⟩
theorem Xz {X:Env}{M:Md}{o:Oper}{g:FuncId}{G_ args as':List AV}{K:AS→Prop}{s:AS}{r:AV}{H':List AO}(hb:M.B'=true)(h:G' X.P g as' s.h r H')(TBq:K1 s.h H')
  (hu:∀id:Nat,s.h[id]?≠some .D_) (ha:TAR (args ++ G_) as') (hK:K (({ s with h:=H' }:AS).E' o.dst r)):Gy X M o (.fn g G_) args K s:=by
 refine⟨r,H',⟨.inl g,args ++ G_,rfl,.inr (.inr ⟨hb,as',ha,fun _=>H',fun h2 ho=>?_,rfl,TBq,fun h2 id ob _ hid=>absurd hid (hu id),fun id hid=>absurd hid (hu id)⟩)⟩,hK⟩;have:h2=s.h:=by
  apply ZAg;intro i;exact ho i (hu i)
 rw[this];exact h
theorem Fn.intro {P:Program}{f:FuncId}{fn:Func}{body:Code}(he:Cf P f)(hf:P.funcs[f]?=some fn)(hb:fn.body=some body)(hm:P.follows .mixedOrders=true){args:List AV}{r:AV}
  (n0:Nat) (hid str hcs:List Nat) (hok:QO fn.ntmps str hcs body=true) (hlen:args.length≤fn.ntmps) (hs:∀a∈args,A_ a)
  (h:Run (JK P fn str hcs r) [.code body] (AS.start n0 hid args [])):Fn P f args r :=
 ⟨TA3.intro he hf hb hm n0 hid str hcs hok hlen h,hs⟩
theorem EB {N:Nat}{c c':Ctx}{a:Act}{s:AS}(hst:St N c a s)(hx:Ext c c')(hr:I' c'){i:Nat}{v:AV}(hv:Rep c' (a.tmps.getD i undef) v):St N c' a (({ s with h:=c'.H }:AS).put i v):=by
 refine⟨hst.size,hst.defers,fun j=>?_,by simp,hr⟩;rcases Yf ({ s with h:=c'.H }:AS) i j v with⟨h1,h2⟩ |h1 | ⟨h1,h2⟩
 ·rw[h1,h2];exact hv
 ·rw[h1];exact .any _
 ·rw[h2];exact hx.rep hst.H_ (hst.TAP j)
theorem JM {m:Nat}{s:AS}(i es:Nat)(f:Nat→AV){M:Nat}{g:Nat→AV}(hi:s.get i=.sl 0 M g true) :
  Sub m s (({ s with h:=s.h ++ [.row 0 0 f] }:AS).put i (.osl s.h.length 0 es 0 0)):=by
 intro N c a hst;have hH:=hst.heap;have TAG:(c.H ++ [AO.row 0 0 f])[c.H.length]?=some (.row 0 0 f):=by simp
 have TAH:∀i,i≠c.H.length→(c.H ++ [AO.row 0 0 f])[i]?=c.H[i]?:=fun i hi=>by
  have:=As (nid:=none) (h:=c.H) (o:=.row 0 0 f) i (by simpa [QL]using hi)
  simpa [KI]using this
 obtain⟨g1,g2⟩:=HI hst.H_ (id:=c.H.length) (ver:=0) (w:=c.w) TAG TAH rfl (.inl (by simp));refine⟨⟨c.w,c.S,JW c.γ c.H.length none,c.H ++ [.row 0 0 f]⟩,rfl,g2.toB m,?_⟩;have hv:=hst.TAP i;rw[hi]at hv;have:=EB hst g2 g1 (i:=i) (v:=.osl c.H.length 0 es 0 0) (by
  have J_:inf (c.H ++ [AO.row 0 0 f]) c.H.length=some 0:=by simp[inf,AO.info]
  cases hq:a.tmps.getD i undef with
  |slice b n cap =>
   rw[hq]at hv;cases hv with
   |sl _ _ _ _ _ _ _ _ _ _ _ _ ht=>have:=ht rfl;subst this;exact .TAg _ _ _ _ _ J_
   |slz _ _ _ _ ht=>have:=ht rfl;subst this;exact .TAg _ _ _ _ _ J_
  |_=>rw[hq]at hv;cases hv)
 simp only[hH]at this ⊢;exact this
theorem HE {m:Nat}{s:AS}(i:Nat){id ver es off n k M:Nat}{f:Nat→AV}(hi:s.get i=.osl id ver es off n)(ho:s.h[id]?=some (.con ver k f)) (hle:off+M≤k) (hM:n=0→M=0) :
  Sub m s (s.put i (.sl n M (fun j=>f (off+j)) false)):=by
 intro N c a hst;have hH:=hst.heap;refine⟨c,rfl,(Ext.refl c).toB m,?_⟩;rw[←hH]at ho;have J_:inf c.H id=some ver:=by simp[inf,ho,AO.info]
 have hns:¬TAd c.H id ver:=by
  rintro(⟨v',hi,hlt⟩ |hd)
  ·rw[J_]at hi;cases hi;omega
  ·simp[inf,hd,AO.info]at J_
 have hv:=hst.TAP i;rw[hi]at hv;have hz:n=0→∀b cap,Rep c (.slice b 0 cap) (.sl n M (fun j=>f (off+j)) false):=by
  rintro hn b cap;rw[hn,hM hn];exact .slz _ _ _ _ (by simp)
 have:=EB hst (Ext.refl c) hst.H_ (i:=i) (v:=.sl n M (fun j=>f (off+j)) false) (by
  generalize a.tmps.getD i undef=q at hv;cases hv with
  |osl _ _ _ _ _ cap b sz hi hg hn TAY hmx =>
   rcases hst.H_.con id ver k f ho with⟨h1,_⟩ | ⟨b',sz',cs,el,fr,h1,h2,h3,h4,h5,h6⟩
   ·rw[h1]at hg;cases hg
   ·rw[h1]at hg;cases hg
    refine .sl b off n M cap _ false (fun j=>cs.getD (off+j) undef) h5 (fun j hj=>?_) (fun j hj=>h6 _ (by omega)) hn (by simp);have hlt:off+j<cs.size:=by omega
    rw[cell_of_row c.w b _ cs el fr h2];simp[hlt,Array.getD]
  |TAg _ _ _ _ b hi=>exact hz rfl b 0
  |TAL _ _ _ _ _ b cap hn hs=>exact absurd hs hns
  |TAE _ _ _ _ b hs=>exact absurd hs hns)
 rwa[show({ s with h:=c.H }:AS)=s by rw[hH]]at this
theorem XH {m:Nat}{s:AS}(i:Nat){id ver off k:Nat}{f:Nat→AV}(hi:s.get i=.ref id ver off)(ho:s.h[id]?=some (.con ver k f)) (hk:0<k) :
  Sub m s (s.put i (.ptr k f off)):=by
 intro N c a hst;have hH:=hst.heap;refine⟨c,rfl,(Ext.refl c).toB m,?_⟩;rw[←hH]at ho;have J_:inf c.H id=some ver:=by simp[inf,ho,AO.info]
 have hns:¬TAd c.H id ver:=by
  rintro(⟨v',hi,hlt⟩ |hd)
  ·rw[J_]at hi;cases hi;omega
  ·simp[inf,hd,AO.info]at J_
 have hv:=hst.TAP i;rw[hi]at hv;have:=EB hst (Ext.refl c) hst.H_ (i:=i) (v:=.ptr k f off) (by
  generalize a.tmps.getD i undef=q at hv;cases hv with
  |ref _ _ _ b sz hi hg =>
   rcases hst.H_.con id ver k f ho with⟨h1,h2⟩ | ⟨b',sz',cs,el,fr,h1,h2,h3,h4,h5,h6⟩
   ·omega
   ·rw[h1]at hg;cases hg
    have:=Rep.ptr (c:=c) b 0 k off f (fun j=>cs.getD j undef) h5 (fun j hj=>ZL h2 (by omega) j hj) h6;rwa[x_]at this
  |TAQ _ _ _ b hs=>exact absurd hs hns)
 rwa[show({ s with h:=c.H }:AS)=s by rw[hH]]at this
end
end Go.Ab
namespace Go.Ab
open Go Go.RowKit
noncomputable section
@[congr] theorem TDW {α:Type}{o o':Option α}{K:α→Prop}(h:o=o'):Q3 o K=Q3 o' K:=by rw[h]
@[congr] theorem TEc {X:Env}{n:Nat}{k:List Item}{s s':AS}(h:s=s'):vc X n k s=vc X n k s':=by rw[h]
@[congr] theorem TDX {X:Env}{n:Nat}{M:Md}{os:List Oper}{k:List Item}{s s':AS}(h:s=s'):Xy X n M os k s=Xy X n M os k s':=by rw[h]
@[congr] theorem TDy {X:Env}{n:Nat}{M:Md}{o:Oper}{os:List Oper}{k:List Item}{s s':AS}(h:s=s'):Qq X n M o os k s=Qq X n M o os k s':=by rw[h]
@[congr] theorem TDz {X:Env}{k:List Item}{s s':AS}(h:s=s'):aG X k s=aG X k s':=by rw[h]
@[congr] theorem TEN {X:Env}{k:List Item}{s s':AS}(h:s=s'):Run X k s=Run X k s':=by rw[h]
@[congr] theorem TDY {X:Env}{s s':AS}(h:s=s'):TAC X s=TAC X s':=by rw[h]
@[congr] theorem TD0 {X:Env}{s s':AS}(h:s=s'):TBS X s=TBS X s':=by rw[h]
@[congr] theorem TDZ {X:Env}{M:Md}{o:Oper}{f f':AV}{args TB1:List AV}{K:AS→Prop}{s s':AS}(h1:f=f')(h2:args=TB1)(h3:s=s'):Gy X M o f args K s=Gy X M o f' TB1 K s':=by rw[h1,h2,h3]
@[congr] theorem TDa {b:Bool}{ops:Array Oper}{s s':AS}(h:s=s'):Ez b ops s=Ez b ops s':=by rw[h]
def Cj (ops:Array Oper)(j:Nat):Option Nat:=(ops[j]?).bind (·.dst)
@[congr] theorem TDb {ops:Array Oper}{j j':Nat}(h:j=j'):Cj ops j=Cj ops j':=by rw[h]
theorem Vl (o:Oper)(l:List Oper):Cj (o :: l).toArray 0=o.dst:=by simp[Cj]
theorem Vk (o:Oper)(l:List Oper)(j:Nat):Cj (o :: l).toArray (j+1)=Cj l.toArray j:=by simp[Cj]
def Zm (b:Bool)(T F:Prop):Prop:=(b=true→T)∧(b=false→F)
@[congr] theorem TDL {b b':Bool}{T F:Prop}(h:b=b'):Zm b T F=Zm b' T F:=by rw[h]
theorem Qs {b:Bool}{T F:Prop}(h1:b=true→T)(h2:b=false→F):Zm b T F:=⟨h1,h2⟩
theorem IC (T F:Prop):Zm true T F=T:=by simp[Zm]
theorem DO (T F:Prop):Zm false T F=F:=by simp[Zm]
theorem MF (p:Prop) [Decidable p] (T F:Prop):Zm (decide p) T F=((p→T)∧(¬p→F)):=by simp[Zm]
theorem IB (p:Prop) [Decidable p] (T F:Prop):Zm (!decide p) T F=((¬p→T)∧(p→F)):=by simp[Zm]
def xn (a:AV)(T F:Prop):Prop:=match a with | .bool b=>Zm b T F | .TAf=>T∧F |_=>False
@[congr] theorem TEO {a a':AV}{T F:Prop}(h:a=a'):xn a T F=xn a' T F:=by rw[h]
theorem HY (T F:Prop):xn .TAf T F=(T∧F):=C_ rfl
theorem Mb (b:Bool)(T F:Prop):xn (.bool b) T F=Zm b T F:=C_ rfl
def nW (a:AV)(T F U:Prop):Prop:=match a with | .bool b=>Zm b T F | .tup []=>U |_=>False
@[congr] theorem TEP {a a':AV}{T F U:Prop}(h:a=a'):nW a T F U=nW a' T F U:=by rw[h]
theorem SM (b:Bool)(T F U:Prop):nW (.bool b) T F U=Zm b T F:=C_ rfl
theorem OB (T F U:Prop):nW XW T F U=U:=C_ rfl
def pD (o:Option Nat)(K:Nat→Prop):Prop:=match o with |some e=>K e |none=>False
@[congr] theorem TEQ {o o':Option Nat}{K:Nat→Prop}(h:o=o'):pD o K=pD o' K:=by rw[h]
theorem Sv (e:Nat)(K:Nat→Prop):pD (some e) K=K e:=C_ rfl
def ws (a:AV)(T F:Prop):Prop:=match a with | .bool true=>T | .bool false=>F |_=>False
@[congr] theorem TER {a a':AV}{T F:Prop}(h:a=a'):ws a T F=ws a' T F:=by rw[h]
theorem Tl (T F:Prop):ws (.bool true) T F=T:=C_ rfl
theorem P0 (T F:Prop):ws (.bool false) T F=F:=C_ rfl
def nZ (a:AV)(j:Nat)(K:AV→Prop):Prop:=match a with | .tup l=>j<l.length∧K (l.getD j .any) |_=>False
@[congr] theorem TES {a a':AV}{j:Nat}{K:AV→Prop}(h:a=a'):nZ a j K=nZ a' j K:=by rw[h]
theorem Uw (a:AV)(l:List AV)(K:AV→Prop):nZ (.tup (a :: l)) 0 K=K a:=by simp[nZ]
theorem Uv (a:AV)(l:List AV)(j:Nat)(K:AV→Prop):nZ (.tup (a :: l)) (j+1) K=nZ (.tup l) j K:=by simp[nZ]
def y8 (o:Option (List Item)) (K:List Item→Prop):Prop:=match o with |some k=>K k |none=>False
@[congr] theorem TET {o o':Option (List Item)} {K:List Item→Prop} (h:o=o'):y8 o K=y8 o' K:=by rw[h]
theorem Sz (k:List Item)(K:List Item→Prop):y8 (some k) K=K k:=C_ rfl
theorem nq (X:Env)(n:Nat)(k:List Item)(s:AS)(o:Operand)(a b:Code):vc X (n+1) (.code (.cond o a b) :: k) s=xn (s.ev o) (vc X n (.code a :: k) s) (vc X n (.code b :: k) s):=by
 rw[rZ];unfold xn Zm;cases s.ev o <;> rfl
theorem nr (X:Env)(n:Nat)(k:List Item)(s:AS)(i:Nat):vc X (n+1) (.code (.exit i) :: k) s=y8 (exitTo i k) fun k'=>vc X n k' s:=by
 rw[s8];unfold y8;cases exitTo i k <;> rfl
theorem lO (X:Env)(n:Nat)(k:List Item)(s:AS)(all:Array Oper)(st:Nat→Bool)(hc:Bool)(bs:Option Nat)(i nx:Nat)(os:List Oper)(d:Option Nat)(t:TypeId)(p:String)(af:Array Edge)(g:Option (Nat×Bool)) (x y z:Operand) :
  Qq X (n+1) ⟨all,st,hc,bs,i,nx⟩ ⟨d,.pick x y z,t,p,af,g⟩ os k s=ws (s.ev x) (Xy X n ⟨all,st,hc,bs,i+1,nx⟩ os k (s.E' d (s.ev y))) (Xy X n ⟨all,st,hc,bs,i+1,nx⟩ os k (s.E' d (s.ev z))):=by
 rw[qU];unfold ws;cases hx:s.ev x with
 |bool b=>cases b <;> rfl
 |_=>rfl
theorem Th (X:Env)(n:Nat)(k:List Item)(s:AS)(all:Array Oper)(st:Nat→Bool)(hc:Bool)(bs:Option Nat)(i nx:Nat)(os:List Oper)(d:Option Nat)(t:TypeId)(p:String)(af:Array Edge)(g:Option (Nat×Bool)) (x:Operand) (j:Nat) :
  Qq X (n+1) ⟨all,st,hc,bs,i,nx⟩ ⟨d,.extract x j,t,p,af,g⟩ os k s=nZ (s.ev x) j fun v=>Xy X n ⟨all,st,hc,bs,i+1,nx⟩ os k (s.E' d v):=by
 rw[VP];unfold nZ;cases hx:s.ev x <;> rfl
theorem fW (X:Env)(n:Nat)(k:List Item)(s:AS)(all:Array Oper)(st:Nat→Bool)(hc:Bool)(bs:Option Nat)(i nx:Nat)(os:List Oper)
  (d:Option Nat) (op:Op) (t:TypeId) (p:String) (af:Array Edge) (j:Nat):Xy X (n+1) ⟨all,st,hc,bs,i,nx⟩ (⟨d,op,t,p,af,some (j,true)⟩ :: os) k s =
 pD (Cj all j) fun e=>nW (s.get e) (Qq X n ⟨all,st,hc,bs,i,nx⟩ ⟨d,op,t,p,af,some (j,true)⟩ os k (s.fix e (.bool true)))
  (Xy X n (Md.next ⟨all,st,hc,bs,i,nx⟩ ⟨d,op,t,p,af,some (j,true)⟩) os k ((s.fix e (.bool false)).E' d XW))
  (Xy X n (Md.next ⟨all,st,hc,bs,i,nx⟩ ⟨d,op,t,p,af,some (j,true)⟩) os k (s.E' d XW)):=by
 rw[La];show(match Cj all j with |some e=>_ |none=>False)=_;unfold pD;cases Cj all j with
 |none=>rfl
 |some e =>
  simp only;cases hx:s.get e with
  |bool b=>simp only[nW,Zm];simp
  |tup l=>cases l <;> rfl
  |_=>rfl
theorem fV (X:Env)(n:Nat)(k:List Item)(s:AS)(all:Array Oper)(st:Nat→Bool)(hc:Bool)(bs:Option Nat)(i nx:Nat)(os:List Oper)
  (d:Option Nat) (op:Op) (t:TypeId) (p:String) (af:Array Edge) (j:Nat):Xy X (n+1) ⟨all,st,hc,bs,i,nx⟩ (⟨d,op,t,p,af,some (j,false)⟩ :: os) k s =
 pD (Cj all j) fun e=>nW (s.get e) (Xy X n (Md.next ⟨all,st,hc,bs,i,nx⟩ ⟨d,op,t,p,af,some (j,false)⟩) os k ((s.fix e (.bool true)).E' d XW))
  (Qq X n ⟨all,st,hc,bs,i,nx⟩ ⟨d,op,t,p,af,some (j,false)⟩ os k (s.fix e (.bool false)))
  (Xy X n (Md.next ⟨all,st,hc,bs,i,nx⟩ ⟨d,op,t,p,af,some (j,false)⟩) os k (s.E' d XW)):=by
 rw[La];show(match Cj all j with |some e=>_ |none=>False)=_;unfold pD;cases Cj all j with
 |none=>rfl
 |some e =>
  simp only;cases hx:s.get e with
  |bool b=>simp only[nW,Zm];simp
  |tup l=>cases l <;> rfl
  |_=>rfl
theorem Up (X:Env)(n:Nat)(k:List Item)(s:AS)(all:Array Oper)(st:Nat→Bool)(hc:Bool)(i nx:Nat)(o:Oper)(os:List Oper) :
  Xy X n (Md.next ⟨all,st,hc,none,i,nx⟩ o) os k s=Xy X n ⟨all,st,hc,none,i+1,nx⟩ os k s:=C_ rfl
theorem Uq (X:Env)(n:Nat)(k:List Item)(s:AS)(all:Array Oper)(st:Nat→Bool)(hc:Bool)(b i nx:Nat)(o:Oper)(os:List Oper) :
  Xy X n (Md.next ⟨all,st,hc,some b,i,nx⟩ o) os k s=if QH hc o.op=2 then Xy X n ⟨all,st,hc,some b,i+1,nx+1⟩ os k s else Xy X n ⟨all,st,hc,some b,i+1,nx⟩ os k s:=by
 rw[dU]
 split <;> simp[*]
theorem Uo (X:Env)(n:Nat)(k:List Item)(s:AS)(all:Array Oper)(st:Nat→Bool)(hc:Bool)(bs:Option Nat)(i nx:Nat)(os:List Oper)
  (d:Option Nat) (op:Op) (t:TypeId) (p:String) (af:Array Edge):Xy X (n+1) ⟨all,st,hc,bs,i,nx⟩ (⟨d,op,t,p,af,none⟩ :: os) k s=Qq X n ⟨all,st,hc,bs,i,nx⟩ ⟨d,op,t,p,af,none⟩ os k s:=C_ rfl
theorem cO (i j:Nat)(k:List Item):exitTo i (.inBlock j :: k)=if i=j then some k else exitTo i k:=by
 simp only[exitTo,beq_iff_eq]
 first |rfl | (by_cases h:i=j <;> simp[h,eq_comm])
theorem SF (i:Nat)(c:Code)(k:List Item):exitTo i (.code c :: k)=exitTo i k:=C_ rfl
theorem SG (i:Nat)(c:Code)(k:List Item):exitTo i (.inLoop c :: k)=exitTo i k:=C_ rfl
@[congr] theorem TDM {i i':Nat}{k:List Item}(h:i=i'):exitTo i k=exitTo i' k:=by rw[h]
section
variable (P:Program) (fn:Func) (str hcs:List Nat) (b:Nat) (r:AV) (H':List AO)
theorem R5:(JK P fn str hcs r).P=P:=C_ rfl
theorem Fk:(JK P fn str hcs r).fn=fn:=C_ rfl
theorem jE:(JK P fn str hcs r).str=str:=C_ rfl
theorem jD:(JK P fn str hcs r).hcs=hcs:=C_ rfl
theorem vg:(Ms P fn str hcs b r H').P=P:=C_ rfl
theorem WW:(Ms P fn str hcs b r H').fn=fn:=C_ rfl
theorem jy:(Ms P fn str hcs b r H').str=str:=C_ rfl
theorem jx:(Ms P fn str hcs b r H').hcs=hcs:=C_ rfl
end
section
variable (P:Program)
theorem EI {α:Type}{p:Prop}(h:p)(x:Option α):Qd p x=x:=N_ h
theorem aM (op:BinOp)(t:TypeId)(i:Nat)(a b:AV):LR P op t (.tmp i) a b=CC P op t a b:=C_ rfl
theorem aJ (op:BinOp)(t:TypeId)(k:IntKind)(n:Int)(a b:AV):LR P op t (.const (.int k n)) a b=CC P op t a b:=C_ rfl
theorem aK (op:BinOp)(t:TypeId)(a b:AV):LR P op t (.const (.slice none 0 0)) a b=iw P op t a:=C_ rfl
theorem ix (t:TypeId)(n m:Nat)(f:Nat→AV)(b:Bool):iw P .eql t (.sl n m f b)=Qd (Iq P t=true) (some (if n=0 then .TAf else .bool false)):=C_ rfl
theorem gH (t:TypeId)(k:IntKind)(x y:Int):CC P .add t (.int k x) (.int k y)=some (.int k (k.wrap (x+y))):=EI rfl _
theorem RK (t:TypeId)(k:IntKind)(x y:Int):CC P .sub t (.int k x) (.int k y)=some (.int k (k.wrap (x-y))):=EI rfl _
theorem gN (t:TypeId)(k:IntKind)(x y:Int):CC P .mul t (.int k x) (.int k y)=some (.int k (k.wrap (x*y))):=EI rfl _
theorem gQ (t:TypeId)(k:IntKind)(x y:Int):CC P .quo t (.int k x) (.int k y)=Qd (y≠0) (some (.int k (k.wrap (x.tdiv y)))):=by simp[CC]
theorem gR (t:TypeId)(k:IntKind)(x y:Int):CC P .rem t (.int k x) (.int k y)=Qd (y≠0) (some (.int k (x.tmod y))):=by simp[CC]
theorem gI (t:TypeId)(k:IntKind)(x y:Int):CC P .eql t (.int k x) (.int k y)=some (.bool (decide (x=y))):=EI rfl _
theorem gO (t:TypeId)(k:IntKind)(x y:Int):CC P .neq t (.int k x) (.int k y)=some (.bool (!decide (x=y))):=EI rfl _
theorem gM (t:TypeId)(k:IntKind)(x y:Int):CC P .lss t (.int k x) (.int k y)=some (.bool (decide (x<y))):=EI rfl _
theorem gL (t:TypeId)(k:IntKind)(x y:Int):CC P .leq t (.int k x) (.int k y)=some (.bool (decide (x≤y))):=EI rfl _
theorem gK (t:TypeId)(k:IntKind)(x y:Int):CC P .gtr t (.int k x) (.int k y)=some (.bool (decide (y<x))):=EI rfl _
theorem gJ (t:TypeId)(k:IntKind)(x y:Int):CC P .geq t (.int k x) (.int k y)=some (.bool (decide (y≤x))):=EI rfl _
theorem aN (t:TypeId)(x y:Bool):CC P .eql t (.bool x) (.bool y)=Qd (M9 P t=true) (some (.bool (x == y))):=C_ rfl
theorem aO (t:TypeId)(x y:Bool):CC P .neq t (.bool x) (.bool y)=Qd (M9 P t=true) (some (.bool (!(x == y)))):=C_ rfl
theorem oM (b:Bool):uG .not (.bool b)=some (.bool !b):=C_ rfl
theorem oL (k:IntKind)(n:Int):uG .neg (.int k n)=some (.int k (k.wrap (0-n))):=C_ rfl
theorem iv (k:IntKind)(x y:Int):aT (.int k x) (.int k y)=some (.int k (if y<x then y else x)):=EI rfl _
theorem iu (k:IntKind)(x y:Int):aS (.int k x) (.int k y)=some (.int k (if x<y then y else x)):=EI rfl _
end
theorem EJ {α:Type}(x:Option α):Qd True x=x:=N_ trivial
theorem qS (k:IntKind)(n:Int):(AV.int k n).one=true:=C_ rfl
theorem MW (b:Bool):(AV.bool b).one=true:=C_ rfl
theorem VO (n m:Nat)(f:Nat→AV)(t:Bool):(AV.sl n m f t).one=true:=C_ rfl
theorem qT (i v o:Nat):(AV.ref i v o).one=true:=C_ rfl
theorem Yw (i v e o n:Nat):(AV.osl i v e o n).one=true:=C_ rfl
theorem VN (g:FuncId)(l:List AV):(AV.fn g l).one=true:=C_ rfl
theorem HZ (l:List AV):(AV.agg l).cells=l:=C_ rfl
theorem bM (k:IntKind)(n:Int):AV.cells (.int k n)=[.int k n]:=C_ rfl
theorem dE (k:IntKind)(n:Int):AV.loose (.int k n)=.int k n:=C_ rfl
theorem Vc (b:Bool):AV.cells (.bool b)=[.bool b]:=C_ rfl
theorem Gj (b:Bool):AV.loose (.bool b)=.bool b:=C_ rfl
theorem j9 (n m:Nat)(f:Nat→AV)(t:Bool):AV.cells (.sl n m f t)=[.sl n m f t]:=C_ rfl
theorem MS (n m:Nat)(f:Nat→AV)(t:Bool):AV.loose (.sl n m f t)=.sl n m f false:=C_ rfl
theorem bU (i v o:Nat):AV.cells (.ref i v o)=[.ref i v o]:=C_ rfl
theorem dH (i v o:Nat):AV.loose (.ref i v o)=.ref i v o:=C_ rfl
theorem Ot (i v e o n:Nat):AV.cells (.osl i v e o n)=[.osl i v e o n]:=C_ rfl
theorem ON (i v e o n:Nat):AV.loose (.osl i v e o n)=.osl i v e o n:=C_ rfl
theorem j8 (g:FuncId)(l:List AV):AV.cells (.fn g l)=[.fn g l]:=C_ rfl
theorem l6 (g:FuncId)(l:List AV):AV.loose (.fn g l)=.fn g l:=C_ rfl
theorem bm (k:IntKind)(n:Int):AV.boxed (.int k n)=.int k n:=C_ rfl
theorem V9 (b:Bool):AV.boxed (.bool b)=.bool b:=C_ rfl
theorem bu (i v o:Nat):AV.boxed (.ref i v o)=.ref i v o:=C_ rfl
theorem bD (n m:Nat)(f:Nat→AV):AV.boxed (.sl n m f false)=.sl n m f false:=C_ rfl
theorem bI (n m:Nat)(f:Nat→AV):AV.boxed (.sl n m f true)=.sl n m f (n == 0):=C_ rfl
theorem A9 {P:Program}{fn:Func}{str hcs:List Nat}{r:AV}{s:AS}{t:Nat}(hr:fn.results=#[.tmp t])(h:Zs s.h (s.get t) r):TAC (JK P fn str hcs r) s :=
 ⟨s.get t,by simp[Al,Fk,hr,JC,ZX,BH],h⟩
theorem rj {P:Program}{fn:Func}{str hcs:List Nat}{r:AV}{s:AS}{t u:Nat}(hr:fn.results=#[.tmp t,.tmp u])(h:Zs s.h (.tup [s.get t,s.get u]) r):TAC (JK P fn str hcs r) s :=
 ⟨.tup [s.get t,s.get u],by simp[Al,Fk,hr,JC,ZX,BH],h⟩
theorem Pd {P:Program}{fn:Func}{str hcs:List Nat}{b:Nat}{r:AV}{H:List AO}{s:AS}{t:Nat}(hr:fn.results=#[.tmp t])(h:s.get t=r)(hH:s.h=H):TAC (Ms P fn str hcs b r H) s :=
 ⟨s.get t,by simp[Al,WW,hr,JC,ZX,BH],h,hH⟩
theorem XU {H:List AO}{a b:AV}(h:A_ b)(he:a=b):Zs H a b:=by subst he;exact h.TBH H
theorem Nm {α:Type}{e:α→AV}{d:α}{l:List α}{H:List AO}{id ver n off:Nat}(he:∀a,A_ (e a)) (ho:H[id]?=some (.row ver n (J0 e d l))∨H[id]?=some (.con ver n (J0 e d l))) (hn:l.length≤n) (TCV:off=0) :
  Zs H (.osl id ver 1 off l.length) (QE e d l):=by
 subst TCV;exact Kc ho (by omega) (by omega) fun j _=>by rw[x_];exact(he _).TBH H
theorem Bp {α:Type}{e:α→AV}{d:α}{l:List α}{H:List AO}{a:AV}{id ver n m:Nat}{g:Nat→AV}(he:∀a,A_ (e a)) (ha:a=.osl id ver 1 0 m) (ho:H[id]?=some (.row ver n g)) (hm:m=l.length) (hg:g=J0 e d l) (hn:l.length≤n):Zs H a (QE e d l):=by
 subst ha;subst hm;subst hg;exact Nm he (.inl ho) hn rfl
theorem Wa {H:List AO}{f g:Nat→AV}{t:Bool}:Zs H (.sl 0 0 f t) (.sl 0 0 g false):=by
 intro c v _ _ h;cases h with
 |sl b base _ _ cap _ _ us hS hc hr hn ht=>exact .slz _ _ _ _ (by simp)
 |slz a cap _ _ ht=>exact .slz _ _ _ _ (by simp)
theorem Te (a:AV):(∀j,j<1→(Xf [a] j).one=true)=(a.one=true):=by
 apply propext;constructor
 ·intro h;exact h 0 (by omega)
 ·intro h j hj
  obtain rfl:j=0:=by omega
  exact h
theorem PI (l:List Int)(x:Int):Q1 l.length (J0 I 0 l) 1 (Xf [.int .i64 x])=J0 I 0 (l ++ [x]):=by
 have:=iA I 0 l x;rw[ZCN,ZCN]at this;exact this
theorem TA {c c':Ctx}(hw:c'.w=c.w)(hS:c'.S=c.S)(hγ:c'.γ=c.γ)(hi:∀ id,inf c'.H id=inf c.H id)(hd:∀id:Nat,c'.H[id]?=some AO.dead↔c.H[id]?=some AO.dead)
  (hm:∀ (id:Nat) k g,c.H[id]?=some (AO.map k g)→c'.H[id]?=some (AO.map k g)) {v:Value} {a:AV} (h:Rep c v a):Rep c' v a :=
 h.ext (fun b hb=>by rw[hS];exact hb) (fun b _=>by rw[hw]) (by
  intro id o ho;have key:∀v,inf c.H id=some v→(c'.H[id]?=some .dead∨∃v',Ab.inf c'.H id=some v'∧(v<v'∨(v'=v∧c'.γ id=c.γ id))) :=
   fun v hv=>.inr ⟨v,by rw[hi];exact hv,.inr ⟨rfl,by rw[hγ]⟩⟩
  cases o with
  |D_=>trivial
  |dead=>exact(hd id).2 ho
  |row v _ _=>exact key v (by simp[inf,ho,AO.info])
  |con v _ _=>exact key v (by simp[inf,ho,AO.info])
  |map k g=>exact .inr ⟨⟨k,g,hm id k g ho⟩,by rw[hγ]⟩)
theorem Zh {m:Nat}{s:AS}(id:Nat){ver n:Nat}{f:Nat→AV}(n':Nat)(g:Nat→AV)(ho:s.h[id]?=some (.row ver n f)) (hn':n'≤n) (hfg:∀j,j<n'→f j=g j):Sub m s { s with h:=s.h.set id (.row ver n' g) }:=by
 intro N c a hst;have hH:=hst.heap;rw[←hH]at ho;have hlt:=(R_.1 ho).1;have hat:(c.H.set id (.row ver n' g))[id]?=some (.row ver n' g):=by simp[hlt]
 have TAH:∀i,i≠id→(c.H.set id (AO.row ver n' g))[i]?=c.H[i]?:=fun i hi=>L_ (v_ hi)
 let c':Ctx:=⟨c.w,c.S,c.γ,c.H.set id (.row ver n' g)⟩
 have J_:∀i,inf c'.H i=inf c.H i:=fun i=>by
  by_cases hi:i=id
  ·subst hi;simp[inf,c',hat,ho,AO.info]
  ·simp[inf,c',TAH i hi]
 have TCR:∀i:Nat,c'.H[i]?=some AO.dead↔c.H[i]?=some AO.dead:=fun i=>by
  by_cases hi:i=id
  ·subst hi;simp[c',hat,ho]
  ·simp[c',TAH i hi]
 have TCb:∀ (i:Nat) k q,c.H[i]?=some (AO.map k q)↔c'.H[i]?=some (AO.map k q):=fun i k q=>by
  by_cases hi:i=id
  ·subst hi;simp[c',hat,ho]
  ·simp[c',TAH i hi]
 have TAa:∀ {v a},Rep c v a→Rep c' v a:=fun hv=>TA (c:=c) (c':=c') rfl rfl rfl J_ TCR (fun i k q=>(TCb i k q).1) hv
 have TC0:∀b,Ai c' b→Ai c b:=by
  rintro b ⟨i,o,sz,hoi,TAO,hg⟩;by_cases hi:i=id
  ·subst hi;exact⟨i,_,sz,ho,rfl,hg⟩
  ·exact⟨i,o,sz,by rw[←TAH i hi];exact hoi,TAO,hg⟩
 have J':Ext c c':=by
  refine⟨?_,fun b h=>h,fun b h=>.inl h,fun b h=>.inr (TC0 b h),fun _ _ _=>rfl,N' _,rfl,rfl,rfl⟩;intro i o hoi;have key:∀v,inf c.H i=some v→(c'.H[i]?=some .dead∨∃v',Ab.inf c'.H i=some v'∧(v<v'∨(v'=v∧c'.γ i=c.γ i))) :=
   fun v hv=>.inr ⟨v,by rw[J_];exact hv,.inr ⟨rfl,rfl⟩⟩
  cases o with
  |D_=>trivial
  |dead=>exact(TCR i).2 hoi
  |row v _ _=>exact key v (by simp[inf,hoi,AO.info])
  |con v _ _=>exact key v (by simp[inf,hoi,AO.info])
  |map k q=>exact .inr ⟨⟨k,q,(TCb i k q).1 hoi⟩,rfl⟩
 refine⟨c',rfl,J'.toB m,hst.size,hst.defers,fun i=>TAa (hst.TAP i),by simp[c',hH],?_⟩;refine⟨?_,?_,?_,?_,hst.H_.bound⟩
 ·intro i v k q hoi
  by_cases hi:i=id
  ·subst hi
   simp only[c']at hoi;rw[hat]at hoi;cases hoi;rcases hst.H_.row i ver n f ho with h | ⟨b,sz,cs,el,h1,h2,h3,h4,h5,h6⟩
   ·exact .inl ⟨h.1,by omega⟩
   ·exact .inr ⟨b,sz,cs,el,h1,h2,h3,by omega,h5,fun j hj=>by rw[←hfg j hj];exact TAa (h6 j (by omega))⟩
  ·simp only[c']at hoi
   rw[TAH i hi]at hoi;rcases hst.H_.row i v k q hoi with h | ⟨b,sz,cs,el,h1,h2,h3,h4,h5,h6⟩
   ·exact .inl h
   ·exact .inr ⟨b,sz,cs,el,h1,h2,h3,h4,h5,fun j hj=>TAa (h6 j hj)⟩
 ·intro i v k q hoi
  by_cases hi:i=id
  ·subst hi;simp only[c']at hoi;rw[hat]at hoi;cases hoi
  ·simp only[c']at hoi
   rw[TAH i hi]at hoi;rcases hst.H_.con i v k q hoi with h | ⟨b,sz,cs,el,fr,h1,h2,h3,h4,h5,h6⟩
   ·exact .inl h
   ·exact .inr ⟨b,sz,cs,el,fr,h1,h2,h3,h4,h5,fun j hj=>TAa (h6 j hj)⟩
 ·intro i k q hoi
  obtain⟨b,sz,es,cl,h1,h2,h3,h4⟩:=hst.H_.map i k q ((TCb i k q).2 hoi);exact⟨b,sz,es,cl,h1,h2,h3,h4.ext fun v a hv=>TAa hv⟩
 ·intro i i' o o' b sz sz' hoi TAm h1 h2 hg hg'
  have key:∀ (i:Nat) o,c'.H[i]?=some o→o.owned=true→∃o2:AO,c.H[i]?=some o2∧o2.owned=true:=by
   intro i o hoi h;by_cases hi:i=id
   ·subst hi;exact⟨_,ho,rfl⟩
   ·exact⟨o,by rw[←TAH i hi];exact hoi,h⟩
  obtain⟨o2,k1,k2⟩:=key i o hoi h1;obtain⟨o3,k3,k4⟩:=key i' o' TAm h2;exact hst.H_.inj _ _ _ _ _ _ _ k1 k3 k2 k4 hg hg'
def zB (n0:Nat)(hid:List Nat)(sl:List AV)(tm:List (Nat×AV)) (h:List AO):AS:=⟨n0,hid,sl,tm,h⟩
def D1 (s:AS):AS:=s
theorem qJ (n0:Nat)(hid:List Nat)(sl:List AV)(tm:List (Nat×AV)) (h:List AO):D1 ⟨n0,hid,sl,tm,h⟩=zB n0 hid sl tm h:=C_ rfl
def QV (s:AS)(K:AS→Prop):Prop:=K s
@[congr] theorem TDc {s s':AS}{K:AS→Prop}(h:s=s'):QV s K=QV s' K:=by rw[h]
theorem Ta (n0:Nat)(hid:List Nat)(sl:List AV)(tm:List (Nat×AV)) (h:List AO) (K:AS→Prop):QV (zB n0 hid sl tm h) K=K ⟨n0,hid,sl,tm,h⟩:=C_ rfl
section
variable (X:Env) (n:Nat) (k:List Item) (s:AS)
theorem UG (id:Nat)(ops:List Oper):vc X (n+1) (.code (.region id ops.toArray false) :: k) s=(QV (D1 s.clr) fun s=>Xy X n ⟨ops.toArray,HB X.str id,true,none,0,0⟩ ops k s):=C_ rfl
theorem gq (id:Nat)(ops:List Oper):vc X (n+1) (.code (.region id ops.toArray true) :: k) s =
 (DM X.str id=true∧QV (D1 (s.frz (FX X.str id))) fun s=>QV (D1 (Ez (X.hcs.contains id) ops.toArray s)) fun s'=>Xy X n ⟨ops.toArray,HB X.str id,X.hcs.contains id,some s.h.length,0,s.h.length⟩ ops k s'):=C_ rfl
theorem qu:s.frz []=s:=C_ rfl
theorem ku (i:Nat)(l:List Nat):s.frz (i :: l)=(ki s (s.get i)).frz l:=C_ rfl
theorem ko (id ver off:Nat):ki s (.ref id ver off)=Vr s id s.h[id]?:=C_ rfl
theorem kj (id ver es off n:Nat):ki s (.osl id ver es off n)=Vr s id s.h[id]?:=C_ rfl
theorem kq (n0:Nat)(hid:List Nat)(sl:List AV)(tm:List (Nat×AV)) (h:List AO) (id ver n:Nat) (f:Nat→AV):Vr ⟨n0,hid,sl,tm,h⟩ id (some (.row ver n f))=⟨n0,hid,sl,tm,h.set id (.con ver n f)⟩:=C_ rfl
theorem kp (n0:Nat)(hid:List Nat)(sl:List AV)(tm:List (Nat×AV)) (h:List AO) (id ver n:Nat) (f:Nat→AV):Vr ⟨n0,hid,sl,tm,h⟩ id (some (.con ver n f))=⟨n0,hid,sl,tm,h⟩:=C_ rfl
theorem Vp (id:Nat):DM [] id=true:=C_ rfl
theorem SK (c:Nat)(l:List Nat)(id:Nat):DM (c :: l) id=if c/1000000000000=id+1 then false else DM l id:=C_ rfl
theorem cU (id:Nat):FX [] id=[]:=C_ rfl
theorem Vq (n:Nat)(l:List Nat)(id:Nat):FX (n :: l) id=if n/10000000=id+1 then n%10000000 :: FX l id else FX l id:=C_ rfl
variable (all:Array Oper) (st:Nat→Bool) (hc:Bool) (bs:Option Nat) (i nx:Nat) (os:List Oper) (d:Option Nat) (t:TypeId) (p:String) (af:Array Edge) (g:Option (Nat×Bool))
theorem UE (op:Op)(j:Nat):Xy X (n+1) ⟨all,st,hc,bs,i,nx⟩ (⟨d,op,t,p,af,some (j,true)⟩ :: os) k s =
 pD (Cj all j) fun e=>nW (s.get e) (QV (D1 (s.fix e (.bool true))) fun s=>Qq X n ⟨all,st,hc,bs,i,nx⟩ ⟨d,op,t,p,af,some (j,true)⟩ os k s)
  (QV (D1 ((s.fix e (.bool false)).E' d XW)) fun s=>Xy X n (Md.next ⟨all,st,hc,bs,i,nx⟩ ⟨d,op,t,p,af,some (j,true)⟩) os k s)
  (QV (D1 (s.E' d XW)) fun s=>Xy X n (Md.next ⟨all,st,hc,bs,i,nx⟩ ⟨d,op,t,p,af,some (j,true)⟩) os k s):=fW X n k s all st hc bs i nx os d op t p af j
theorem UD (op:Op)(j:Nat):Xy X (n+1) ⟨all,st,hc,bs,i,nx⟩ (⟨d,op,t,p,af,some (j,false)⟩ :: os) k s =
 pD (Cj all j) fun e=>nW (s.get e) (QV (D1 ((s.fix e (.bool true)).E' d XW)) fun s=>Xy X n (Md.next ⟨all,st,hc,bs,i,nx⟩ ⟨d,op,t,p,af,some (j,false)⟩) os k s)
  (QV (D1 (s.fix e (.bool false))) fun s=>Qq X n ⟨all,st,hc,bs,i,nx⟩ ⟨d,op,t,p,af,some (j,false)⟩ os k s)
  (QV (D1 (s.E' d XW)) fun s=>Xy X n (Md.next ⟨all,st,hc,bs,i,nx⟩ ⟨d,op,t,p,af,some (j,false)⟩) os k s):=fV X n k s all st hc bs i nx os d op t p af j
theorem UC (M:Md)(f:Operand)(args:Array Operand)(ts:Array TypeId) :
 Qq X (n+1) M ⟨d,.call { callee:=.value f,args:=args,argTypes:=ts },t,p,af,g⟩ os k s =
  sH X M ⟨d,.call { callee:=.value f,args:=args,argTypes:=ts },t,p,af,g⟩
   (fun s'=>QV (D1 s') fun s'=>Xy X n (M.next ⟨d,.call { callee:=.value f,args:=args,argTypes:=ts },t,p,af,g⟩) os k s') .mk (s.ev f) (args.toList.map s.ev) s:=C_ rfl
theorem gt:vc X 0 k s=aH X k .mk s:=C_ (by unfold vc;rfl)
theorem oz:vc X (n+1) (.code .ret :: k) s=xy X .mk s:=C_ rfl
theorem oy:vc X (n+1) [] s=yP X .mk s:=C_ rfl
theorem gr (b:Code):vc X (n+1) (.code (.loop b) :: k) s=aH X (.code (.loop b) :: k) .mk s:=C_ rfl
theorem UF (b:Code):vc X (n+1) (.inLoop b :: k) s=aH X (.inLoop b :: k) .mk s:=C_ rfl
theorem go (x y z:Operand):Qq X (n+1) ⟨all,st,hc,bs,i,nx⟩ ⟨d,.pick x y z,t,p,af,g⟩ os k s =
  ws (s.ev x) (QV (D1 (s.E' d (s.ev y))) fun s=>Xy X n ⟨all,st,hc,bs,i+1,nx⟩ os k s) (QV (D1 (s.E' d (s.ev z))) fun s=>Xy X n ⟨all,st,hc,bs,i+1,nx⟩ os k s):=by
 rw[lO];rfl
theorem RJ (x:Operand)(j:Nat):Qq X (n+1) ⟨all,st,hc,bs,i,nx⟩ ⟨d,.extract x j,t,p,af,g⟩ os k s=nZ (s.ev x) j fun v=>(QV (D1 (s.E' d v)) fun s=>Xy X n ⟨all,st,hc,bs,i+1,nx⟩ os k s):=by
 rw[Th];rfl
theorem gn (x:Operand):Qq X (n+1) ⟨all,st,hc,bs,i,nx⟩ ⟨d,.move x,t,p,af,g⟩ os k s=(QV (D1 (s.E' d (s.ev x))) fun s=>Xy X n ⟨all,st,hc,bs,i+1,nx⟩ os k s):=by
 first | (rw[YD];rfl) |rw[YD]
theorem UA (x:Operand):Qq X (n+1) ⟨all,st,hc,bs,i,nx⟩ ⟨d,.assign x,t,p,af,g⟩ os k s=(QV (D1 (s.E' d (s.ev x))) fun s=>Xy X n ⟨all,st,hc,bs,i+1,nx⟩ os k s):=by
 first | (rw[OY];rfl) |rw[OY]
theorem gl (u:TypeId)(x:Operand):Qq X (n+1) ⟨all,st,hc,bs,i,nx⟩ ⟨d,.load u x,t,p,af,g⟩ os k s=Q3 (Qx X.P (st i) u (s.ev x) s.h) fun v=>(QV (D1 (s.E' d v)) fun s=>Xy X n ⟨all,st,hc,bs,i+1,nx⟩ os k s):=by
 first | (rw[Yz];rfl) |rw[Yz]
theorem ot (o:BinOp)(u u':TypeId)(x y:Operand):Qq X (n+1) ⟨all,st,hc,bs,i,nx⟩ ⟨d,.binOp o u x y u',t,p,af,g⟩ os k s=Q3 (LR X.P o u y (s.ev x) (s.ev y)) fun v=>(QV (D1 (s.E' d v)) fun s=>Xy X n ⟨all,st,hc,bs,i+1,nx⟩ os k s):=by
 first | (rw[lI];rfl) |rw[lI]
theorem uv (o:UnOp)(u:TypeId)(x:Operand):Qq X (n+1) ⟨all,st,hc,bs,i,nx⟩ ⟨d,.unOp o u x,t,p,af,g⟩ os k s=Q3 (uG o (s.ev x)) fun v=>(QV (D1 (s.E' d v)) fun s=>Xy X n ⟨all,st,hc,bs,i+1,nx⟩ os k s):=by
 first | (rw[tD];rfl) |rw[tD]
theorem gh (u u':TypeId)(x:Operand):Qq X (n+1) ⟨all,st,hc,bs,i,nx⟩ ⟨d,.convert u u' x,t,p,af,g⟩ os k s=Q3 (Og X.P u u' (s.ev x)) fun v=>(QV (D1 (s.E' d v)) fun s=>Xy X n ⟨all,st,hc,bs,i+1,nx⟩ os k s):=by
 first | (rw[Yx];rfl) |rw[Yx]
theorem NK (u:TypeId)(x y:Operand):Qq X (n+1) ⟨all,st,hc,bs,i,nx⟩ ⟨d,.indexAddr u x y,t,p,af,g⟩ os k s=Q3 (DB X.P u (s.ev x) (s.ev y)) fun v=>(QV (D1 (s.E' d v)) fun s=>Xy X n ⟨all,st,hc,bs,i+1,nx⟩ os k s):=by
 first | (rw[Hd];rfl) |rw[Hd]
theorem NJ (u:TypeId)(x:Operand)(j:Nat):Qq X (n+1) ⟨all,st,hc,bs,i,nx⟩ ⟨d,.fieldAddr u x j,t,p,af,g⟩ os k s=Q3 (CG X.P u (s.ev x) j) fun v=>(QV (D1 (s.E' d v)) fun s=>Xy X n ⟨all,st,hc,bs,i+1,nx⟩ os k s):=by
 first | (rw[Hc];rfl) |rw[Hc]
theorem aC (u:TypeId)(x:Operand)(j:Nat):Qq X (n+1) ⟨all,st,hc,bs,i,nx⟩ ⟨d,.field u x j,t,p,af,g⟩ os k s=Q3 (HS X.P u (s.ev x) j) fun v=>(QV (D1 (s.E' d v)) fun s=>Xy X n ⟨all,st,hc,bs,i+1,nx⟩ os k s):=by
 first | (rw[Ti];rfl) |rw[Ti]
theorem aB (u:TypeId)(ps:Array (Nat×Operand)):Qq X (n+1) ⟨all,st,hc,bs,i,nx⟩ ⟨d,.build u ps,t,p,af,g⟩ os k s=Q3 (G8 X.P u (ps.toList.map fun q=>(q.1,s.ev q.2))) fun v=>(QV (D1 (s.E' d v)) fun s=>Xy X n ⟨all,st,hc,bs,i+1,nx⟩ os k s):=by
 first | (rw[Tg];rfl) |rw[Tg]
theorem LQ (u:TypeId)(m:Nat)(ps:Array (Nat×Operand)):Qq X (n+1) ⟨all,st,hc,bs,i,nx⟩ ⟨d,.buildSlice u m ps,t,p,af,g⟩ os k s=xZ (st i) X.P u m (ps.toList.map fun q=>(q.1,s.ev q.2)) s.h fun v h'=>(QV (D1 (({ s with h:=h' }:AS).E' d v)) fun s=>Xy X n ⟨all,st,hc,bs,i+1,nx⟩ os k s):=by
 first | (rw[G0];rfl) |rw[G0]
theorem aE (u:TypeId)(x y:Operand):Qq X (n+1) ⟨all,st,hc,bs,i,nx⟩ ⟨d,.store u x y,t,p,af,g⟩ os k s=Q3 (Zv X.P (st i) u (s.ev x) (s.ev y) s.h) fun h'=>(QV (D1 (({ s with h:=h' }:AS).E' d XW)) fun s=>Xy X n ⟨all,st,hc,bs,i+1,nx⟩ os k s):=by
 first | (rw[Tk];rfl) |rw[Tk]
theorem Pu (x:Operand):Qq X (n+1) ⟨all,st,hc,bs,i,nx⟩ ⟨d,.nilCheck x,t,p,af,g⟩ os k s=((s.ev x).TAk=true∧(QV (D1 (s.E' d (s.ev x))) fun s=>Xy X n ⟨all,st,hc,bs,i+1,nx⟩ os k s)):=by
 first | (rw[IJ];rfl) |rw[IJ]
theorem aD (u:TypeId)(x:Operand)(lo hi:Option Operand):Qq X (n+1) ⟨all,st,hc,bs,i,nx⟩ ⟨d,.slice u x lo hi none,t,p,af,g⟩ os k s =
  Q3 (Es X.P u (s.ev x) (lo.map s.ev) (hi.map s.ev) none) fun v=>(QV (D1 (s.E' d v)) fun s=>Xy X n ⟨all,st,hc,bs,i+1,nx⟩ os k s):=by
 first | (rw[Tj];rfl) |rw[Tj]
theorem UB (u:TypeId)(x:Operand)(lo:Option Operand)(hi mx:Operand):Qq X (n+1) ⟨all,st,hc,bs,i,nx⟩ ⟨d,.slice u x lo (some hi) (some mx),t,p,af,g⟩ os k s =
  Q3 (Es X.P u (s.ev x) (lo.map s.ev) (some (s.ev hi)) (some (s.ev mx))) fun v=>(QV (D1 (s.E' d v)) fun s=>Xy X n ⟨all,st,hc,bs,i+1,nx⟩ os k s):=by
 first | (rw[OZ];rfl) |rw[OZ]
theorem Ps (f:FuncId)(G_:Array Operand):Qq X (n+1) ⟨all,st,hc,bs,i,nx⟩ ⟨d,.makeFunc (.func f) #[] G_,t,p,af,g⟩ os k s=(QV (D1 (s.E' d (.fn f (G_.toList.map s.ev)))) fun s=>Xy X n ⟨all,st,hc,bs,i+1,nx⟩ os k s):=by
 first | (rw[IH];rfl) |rw[IH]
theorem Pt (f:FuncId)(r:Operand):Qq X (n+1) ⟨all,st,hc,bs,i,nx⟩ ⟨d,.makeFunc (.func f) #[r] #[],t,p,af,g⟩ os k s=(QV (D1 (s.E' d (.mfn f (s.ev r)))) fun s=>Xy X n ⟨all,st,hc,bs,i+1,nx⟩ os k s):=by
 first | (rw[II];rfl) |rw[II]
theorem ov (x:Operand)(u:TypeId):Qq X (n+1) ⟨all,st,hc,bs,i,nx⟩ ⟨d,.call { callee:=.builtin .len,args:=#[x],argTypes:=#[u] },t,p,af,g⟩ os k s =
  Q3 (NR X.P u (s.ev x)) fun v=>(QV (D1 (s.E' d v)) fun s=>Xy X n ⟨all,st,hc,bs,i+1,nx⟩ os k s):=by
 first | (rw[lK];rfl) |rw[lK]
theorem ox (x y:Operand)(us:Array TypeId):Qq X (n+1) ⟨all,st,hc,bs,i,nx⟩ ⟨d,.call { callee:=.builtin .min,args:=#[x,y],argTypes:=us },t,p,af,g⟩ os k s =
  Q3 (aT (s.ev x) (s.ev y)) fun v=>(QV (D1 (s.E' d v)) fun s=>Xy X n ⟨all,st,hc,bs,i+1,nx⟩ os k s):=by
 first | (rw[lN];rfl) |rw[lN]
theorem ow (x y:Operand)(us:Array TypeId):Qq X (n+1) ⟨all,st,hc,bs,i,nx⟩ ⟨d,.call { callee:=.builtin .max,args:=#[x,y],argTypes:=us },t,p,af,g⟩ os k s =
  Q3 (aS (s.ev x) (s.ev y)) fun v=>(QV (D1 (s.E' d v)) fun s=>Xy X n ⟨all,st,hc,bs,i+1,nx⟩ os k s):=by
 first | (rw[lM];rfl) |rw[lM]
theorem Uz (x y:Operand)(u:TypeId):Qq X (n+1) ⟨all,st,hc,bs,i,nx⟩ ⟨d,.call { callee:=.builtin .append,args:=#[x,y],argTypes:=#[u,u] },t,p,af,g⟩ os k s =
  Q3 (QW X.P u (s.ev x) (s.ev y) s.h) fun r=>(QV (D1 (({ s with h:=r.2 }:AS).E' d r.1)) fun s=>Xy X n ⟨all,st,hc,bs,i+1,nx⟩ os k s):=by
 first | (rw[OX];rfl) |rw[OX]
theorem gk (x y:Operand)(u u':TypeId):Qq X (n+1) ⟨all,st,hc,bs,i,nx⟩ ⟨d,.call { callee:=.builtin .copy,args:=#[x,y],argTypes:=#[u,u'] },t,p,af,g⟩ os k s =
  Q3 (FQ X.P u (s.ev x) (s.ev y) s.h) fun r=>(QV (D1 (({ s with h:=r.2 }:AS).E' d r.1)) fun s=>Xy X n ⟨all,st,hc,bs,i+1,nx⟩ os k s):=by
 first | (rw[Yy];rfl) |rw[Yy]
theorem En (x y:Operand)(u u':TypeId)(hne:u≠u'):Qq X (n+1) ⟨all,st,hc,bs,i,nx⟩ ⟨d,.call { callee:=.builtin .append,args:=#[x,y],argTypes:=#[u,u'] },t,p,af,g⟩ os k s =
  Q3 (K3 X.P u u' (s.ev x) (s.ev y) s.h) fun r=>(QV (D1 (({ s with h:=r.2 }:AS).E' d r.1)) fun s=>Xy X n ⟨all,st,hc,bs,i+1,nx⟩ os k s):=by
 first | (rw[MX (hne:=hne)];rfl) |rw[MX (hne:=hne)]
theorem aA (u:TypeId):Qq X (n+1) ⟨all,st,hc,none,i,nx⟩ ⟨d,.alloc u,t,p,af,g⟩ os k s =
  Q3 (Bf X.P none u s.h) fun r=>(QV (D1 (({ s with h:=r.2 }:AS).E' d r.1)) fun s=>Xy X n ⟨all,st,hc,none,i+1,nx⟩ os k s):=by
 first | (rw[Tf];rfl) |rw[Tf]
theorem ou (u:TypeId)(x:Operand):Qq X (n+1) ⟨all,st,hc,none,i,nx⟩ ⟨d,.box u x,t,p,af,g⟩ os k s =
  Q3 (NN none (s.ev x) s.h) fun r=>(QV (D1 (({ s with h:=r.2 }:AS).E' d r.1)) fun s=>Xy X n ⟨all,st,hc,none,i+1,nx⟩ os k s):=by
 first | (rw[lJ];rfl) |rw[lJ]
theorem gm (u:TypeId)(x y:Operand):Qq X (n+1) ⟨all,st,hc,none,i,nx⟩ ⟨d,.makeSlice u x y,t,p,af,g⟩ os k s =
  Q3 (Ed X.P none u (s.ev x) (s.ev y) s.h) fun r=>(QV (D1 (({ s with h:=r.2 }:AS).E' d r.1)) fun s=>Xy X n ⟨all,st,hc,none,i+1,nx⟩ os k s):=by
 first | (rw[YB];rfl) |rw[YB]
variable (b:Nat)
theorem Uy (u:TypeId):Qq X (n+1) ⟨all,st,hc,some b,i,nx⟩ ⟨d,.alloc u,t,p,af,g⟩ os k s =
  (s.h[nx]?=some .D_∧Q3 (Bf X.P (some nx) u s.h) fun r=>(QV (D1 (({ s with h:=r.2 }:AS).E' d r.1)) fun s=>Xy X n ⟨all,st,hc,some b,i+1,nx+1⟩ os k s)):=by
 first | (rw[OW];rfl) |rw[OW]
end
theorem wo (l:List AV)(j:Nat):Xf l j=l.getD j .any:=C_ rfl
theorem dY (a:AV):(∀j,j<1→(([a]:List AV).getD j .any).one=true)=(a.one=true):=Te a
theorem nU (a:AV):KT [a]=fun _=>a:=C_ rfl
theorem XF {X:Env}(n:Nat){k:List Item}{s:AS}(h:QV (D1 s) fun s=>vc X n k s):Run X k s:=nu n h
end
end Go.Ab
