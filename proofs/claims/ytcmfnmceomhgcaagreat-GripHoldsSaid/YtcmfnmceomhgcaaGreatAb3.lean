/- A layer of abstract values and heaps over the model; what is proved here is that its steps and contracts are sound, for every program. -/
import Derived.Test.YtcmfnmceomhgcaaGreatAb2
set_option linter.unusedSimpArgs false
set_option linter.unusedVariables false
open Array renaming replicate→ZC3
open List renaming replicate→ZAP,filter_cons→ZDD
open Nat renaming mul_one→ZCS
open Option renaming map→ZAF
namespace Go.Ab
open Go Go.RowKit
theorem V_:type_of%@List.not_mem_nil:=@List.not_mem_nil
theorem ZAA:type_of%@List.length_cons:=@List.length_cons
theorem ZAN:type_of%@List.length_nil:=@List.length_nil
noncomputable section
def JK (P:Program)(fn:Func)(str hcs:List Nat)(r:AV):Env:=⟨P,fn,str,hcs,0,none,[],none,fun v H=>ZA H v r⟩
@[simp] theorem TFP (P:Program)(fn:Func)(str hcs:List Nat)(r:AV)(s:AS):TU (JK P fn str hcs r) s=Au P fn s:=rfl
def AS.start (n0:Nat)(hid:List Nat)(args:List AV)(H:List AO):AS:=⟨n0,hid,args ++ ZAP (n0-args.length) .any,[],H⟩
theorem nm {N n0:Nat}{hid:List Nat}{args:List AV}{c:Ctx}{vs:Array Value}(hr:I' c)(hv:TAH c vs args)(hlen:args.length≤N) :
  St N c { tmps:=vs ++ ZC3 (N-vs.size) undef,defers:=[] } (AS.start n0 hid args c.H):=by
 refine⟨by simp;have:=hv.1;omega,rfl,fun i=>?_,rfl,hr⟩;unfold AS.get AS.start;simp only
 split
 ·by_cases hi:i<args.length
  ·have e1:(args ++ ZAP (n0-args.length) AV.any).getD i .any=args.getD i .any:=by
    simp[K',T_ hi]
   have e2:(vs ++ ZC3 (N-vs.size) undef).getD i undef=vs.getD i undef:=by
    simp[s_,Array.getElem?_append_left (show i<vs.size by rw[hv.1];exact hi)]
   rw[e1,e2];exact hv.2 i hi
  ·have e1:(args ++ ZAP (n0-args.length) AV.any).getD i .any=.any:=by
    rw[K',g_ (by omega),ZAx]
    split <;> rfl
   rw[e1];exact .any _
 ·exact .any _
theorem FZ {X:Env}{f:FuncId}{body:Code}(hf:X.P.funcs[f]?=some X.fn)(hb:X.fn.body=some body)(hm:X.P.follows .mixedOrders=true)(hok:QO X.fn.ntmps X.str X.hcs body=true)(hn:X.rnd=none)
  {c:Ctx} {vs:Array Value} {args:List AV} (hr:I' c) (hv:TAH c vs args) (hlen:args.length≤X.fn.ntmps) {n0:Nat} {hid:List Nat} (h:Run X [.code body] (AS.start n0 hid args c.H)) (TAk:∀p∈X.tok,TAV c p∧p.ce.H.length≤X.base) (TBj:∀l r r1,X.out=some (l,r,r1)→Kept c l (.loop r))
  {R:Ending→World→Prop} (hR:∀v r c',Rep c' v r→I' c'→V1 X c c'→X.Q r c'.H→R (.returned v) c'.w):Calls X.P f vs c.w R:=by
 intro cs
 let b:Frame:={ (default:Frame)with fn:=f,kind:=.normal,roundOf:=none }
 have TCZ:Frame.enter X.P f vs .normal=b.atR { ({ tmps:=vs ++ ZC3 (X.fn.ntmps-vs.size) undef,defers:=[] }:Act)with defers:=[] } [.code body]:=by
  simp[Frame.enter,Frame.atR,hf,hb,b]
 obtain⟨v,fr,r,c',h1,h2,h4,h5,h6,h6',h7⟩:=h hm (by intro i hi;simp at hi;subst hi;exact hok) (by rw[hn];simp) c c _ [] (nm hr hv hlen) ⟨(Ext.refl c).toB _,TAk,fun l r e=>(by rw[hn]at e;cases e),trivial,fun l r r1 e _=>TBj l r r1 e⟩ b cs hf rfl (by rw[hn];rfl);rw[←TCZ]at h1;unfold ov at h2;rw[hn]at h2;exact⟨.returned v,c'.w,fr,hR v r c' h4 h5 h6 h7,h1,h2.1,h2.2⟩
theorem C8 {X:Env}{f:FuncId}{body:Code}(hf:X.P.funcs[f]?=some X.fn)(hb:X.fn.body=some body)(hm:X.P.follows .mixedOrders=true)(hok:QO X.fn.ntmps X.str X.hcs body=true)(hn:X.rnd=none)
  {c:Ctx} {vs:Array Value} {args:List AV} (hr:I' c) (hv:TAH c vs args) (hlen:args.length≤X.fn.ntmps) {n0:Nat} {hid:List Nat} (h:Run X [.code body] (AS.start n0 hid args c.H)) (TAk:∀p∈X.tok,TAV c p∧p.ce.H.length≤X.base)
  {R:Ending→World→Prop} (hR:∀v r c',Rep c' v r→I' c'→TAd X.base c c'→X.Q r c'.H→R (.returned v) c'.w) (ho:X.out=none:=by rfl):Calls X.P f vs c.w R :=
 FZ hf hb hm hok hn hr hv hlen h TAk (fun l r r1 e=>by rw[ho]at e;cases e) fun v r c' h1 h2 h3 h4=>hR v r c' h1 h2 (by rw[GC ho]at h3;exact h3) h4
theorem TA4.intro {P:Program}{f:FuncId}{fn:Func}{body:Code}(he:Cs P f)(hf:P.funcs[f]?=some fn)(hb:fn.body=some body)(hm:P.follows .mixedOrders=true){args:List AV}{r:AV}
  (n0:Nat) (hid str hcs:List Nat) (hok:QO fn.ntmps str hcs body=true) (hlen:args.length≤fn.ntmps) (h:Run (JK P fn str hcs r) [.code body] (AS.start n0 hid args [])):TA4 P f args r:=by
 refine⟨he,fun w S vs hS hv=>?_⟩;refine C8 (X:=JK P fn str hcs r) (c:=.bare w S) hf hb hm hok rfl (dT hS) hv hlen h (fun p hp=>absurd hp (V_)) ?_;intro v r' c' h1 h2 h3 h4;refine⟨v,NT c',rfl,h4 c' v rfl h2 h1,fun b hb=>hb.elim (h2.bound b) h2.TBH,?_⟩;exact⟨fun id o ho=>by simp[Ctx.bare]at ho,fun b hb=>.inl (h3.TAf b hb),fun b hb=>by
   rcases hb with hb |hb
   ·exact h3.TA6 b hb
   ·exact(h3.TAy b hb).imp id id |>.elim (fun h=>.inr (.inl h)) (fun h=>absurd h Dt),
  fun b hb=>absurd hb Dt,fun b hb hn=>h3.same b hb hn,h3.size,h3.os,h3.tape,h3.output⟩
def MB (P:Program)(fn:Func)(str hcs:List Nat)(base:Nat)(r:AV)(H':List AO):Env:=⟨P,fn,str,hcs,base,none,[],none,fun v H=>v=r∧H=H'⟩
@[simp] theorem TFQ (P:Program)(fn:Func)(str hcs:List Nat)(b:Nat)(r:AV)(H:List AO)(s:AS):TU (MB P fn str hcs b r H) s=Au P fn s:=rfl
theorem G'.intro {P:Program}{f:FuncId}{fn:Func}{body:Code}(he:Cs P f)(hf:P.funcs[f]?=some fn)(hb:fn.body=some body)(hm:P.follows .mixedOrders=true){args:List AV}{H H':List AO}{r:AV}
  (n0:Nat) (hid str hcs:List Nat) (hok:QO fn.ntmps str hcs body=true) (hlen:args.length≤fn.ntmps) (h:Run (MB P fn str hcs H.length r H') [.code body] (AS.start n0 hid args H)):G' P f args H r H':=by
 refine⟨he,?_⟩;rintro c vs rfl hr hv;refine C8 (X:=MB P fn str hcs c.H.length r H') hf hb hm hok rfl hr hv hlen h (fun p hp=>absurd hp (V_)) ?_;rintro v r' ⟨w',S',γ',H''⟩ h1 h2 h3 ⟨rfl,rfl⟩;exact⟨v,S',γ',rfl,h1,h2,h3.TCI (N' _)⟩
def Xo:List AV→List AV→Prop
 |_,[]=>True
 |a :: l,b :: l'=>(b=.any∨a=b)∧Xo l l'
 | [],b :: l'=>b=.any∧Xo [] l'
def Xx (tm:List (Nat×AV)):List (Nat×AV)→Prop
 | []=>True
 | (i,v) :: l=>(v=.any∨XM tm i=v)∧Xx tm l
theorem HO:∀ {l l':List AV},Xo l l'→∀i,l'.getD i .any=.any∨l.getD i .any=l'.getD i .any
 |l,[],_,i=>.inl (by simp)
 |a :: l,b :: l',h,0=>by simpa using h.1
 |a :: l,b :: l',h,i+1=>by simpa using HO h.2 i
 | [],b :: l',h,0=>.inl (by simpa using h.1)
 | [],b :: l',h,i+1=>by simpa using HO h.2 i
theorem NA {tm:List (Nat×AV)}:∀ {l:List (Nat×AV)},Xx tm l→∀i,XM l i=.any∨XM tm i=XM l i
 | [],_,i=>.inl rfl
 | (j,v) :: l,h,i=>by
  simp only[XM];by_cases hi:i=j
  ·subst hi;simpa using h.1
  ·simp only[hi,if_false];exact NA h.2 i
theorem Xh {m:Nat}{s s':AS}(h1:s'.n0=s.n0)(h3:Xo s.sl s'.sl)(h4:Xx s.tm s'.tm)(h5:s.h=s'.h):Sub m s s':=by
 intro N c a hst;refine⟨c,rfl,(Ext.refl c).toB m,hst.size,hst.defers,fun i=>?_,by rw[←h5];exact hst.heap,hst.H_⟩;have:=hst.TAQ i;unfold AS.get at this ⊢;rw[h1]
 split
 ·rename_i hi
  simp only[hi,if_true]at this;rcases HO h3 i with e |e
  ·rw[e];exact .any _
  ·rw[←e];exact this
 ·rename_i hi
  simp only[hi,if_false]at this;rcases NA h4 i with e |e
  ·rw[e];exact .any _
  ·rw[←e];exact this
def Jl (m:Nat)(a:AV):Prop:=∀ (c:Ctx) v,Rep c v a→Rep ⟨c.w,c.S,c.γ,c.H.take m⟩ v a
theorem X4 {m:Nat}{a:AV}(h:A_ a):Jl m a:=fun c v hv=>L6 (h c v hv) _ _
theorem Ha {H:List AO}{m id:Nat}(h:id<m):inf (H.take m) id=inf H id:=by simp[inf,ZAe,h]
theorem Gz {H:List AO}{m id ver:Nat}(h:id<m)(hs:TAe H id ver):TAe (H.take m) id ver:=by
 rcases hs with⟨v,hi,hlt⟩ |hd
 ·exact .inl ⟨v,by rw[Ha h];exact hi,hlt⟩
 ·exact .inr (by simp[h,hd])
theorem JJ {m id ver es off n:Nat}(h:id<m:=by omega):Jl m (.osl id ver es off n):=fun c v hv=>by
 cases hv with
 |osl _ _ _ _ _ cap b sz hi hg hn TAY hmx=>exact .osl _ _ _ _ _ _ b sz (by rw[←Ha h]at hi;exact hi) hg hn TAY hmx
 |TAh _ _ _ _ a hi=>exact .TAh _ _ _ _ _ (by rw[←Ha h]at hi;exact hi)
 |TAL _ _ _ _ _ a cap hn hs=>exact .TAL _ _ _ _ _ _ _ hn (Gz h hs)
 |TAG _ _ _ _ a hs=>exact .TAG _ _ _ _ _ (Gz h hs)
theorem QX {m id ver off:Nat}(h:id<m:=by omega):Jl m (.ref id ver off):=fun c v hv=>by
 cases hv with
 |ref _ _ _ b sz hi hg=>exact .ref _ _ _ b sz (by rw[←Ha h]at hi;exact hi) hg
 |TAR _ _ _ a hs=>exact .TAR _ _ _ _ (Gz h hs)
theorem ph {m:Nat}{l:List AV}(hl:∀a∈l,Jl m a):Jl m (.agg l):=fun c v hv=>by
 cases hv with
 |agg vs _ hs hr=>exact .agg vs l hs fun j hj=>hl _ (by rw[K',V' hj];exact ZAR _) c _ (hr j hj)
theorem ja {m:Nat}{g:FuncId}{l:List AV}(hl:∀a∈l,Jl m a):Jl m (.fn g l):=fun c v hv=>by
 cases hv with
 |fn _ vs _ hs hr=>exact .fn g vs l hs fun j hj=>hl _ (by rw[K',V' hj];exact ZAR _) c _ (hr j hj)
def Q0 (m:Nat):AO→Prop
 | .row _ n f=>∀j,j<n→Jl m (f j)
 | .con _ n f=>∀j,j<n→Jl m (f j)
 | .map _ g=>∀n a,g n=some a→Jl m a
 |_=>True
theorem XG {b m:Nat}{s s':AS}(hbm:b≤m)(h1:s'.n0=s.n0)(h3:Xo s.sl s'.sl)(h4:Xx s.tm s'.tm)(h5:s.h.take m=s'.h)
  (h6:∀a∈s'.sl,Jl m a) (h7:∀p∈s'.tm,Jl m p.2) (h8:∀o∈s'.h,Q0 m o:=by simp):Sub b s s':=by
 intro N c a hst;have hH:c.H=s.h:=hst.heap;have TAN:∀ (i:Nat) (o:AO),(c.H.take m)[i]?=some o→c.H[i]?=some o∧i<m:=by
  intro i o ho;rw[ZAe]at ho
  split at ho
  ·exact⟨ho,by assumption⟩
  ·cases ho
 have TAW:∀ (i:Nat) (o:AO),(c.H.take m)[i]?=some o→Q0 m o:=fun i o ho=>h8 o (by rw[←h5,←hH];exact ZAK ho)
 refine⟨⟨c.w,c.S,c.γ,c.H.take m⟩,rfl,?_,hst.size,hst.defers,fun i=>?_,by rw[←h5,hH],?_⟩
 ·refine⟨?_,fun _ h=>h,fun _ h=>.inl h,?_,fun _ _ _=>rfl,N' _,rfl,rfl,rfl⟩
  ·intro id o hlt ho
   have h0:(c.H.take m)[id]?=some o:=by rw[ZAe,N_ (by omega)];exact ho
   cases o with
   |D_=>trivial
   |dead=>exact h0
   |row v _ _=>exact .inr ⟨v,by simp[inf,h0,AO.info],.inr ⟨rfl,rfl⟩⟩
   |con v _ _=>exact .inr ⟨v,by simp[inf,h0,AO.info],.inr ⟨rfl,rfl⟩⟩
   |map k g=>exact .inr ⟨⟨k,g,h0⟩,rfl⟩
  ·rintro x ⟨id,o,sz,ho,TAP,hg⟩
   exact .inr ⟨id,o,sz,(TAN id o ho).1,TAP,hg⟩
 ·have:=hst.TAQ i
  unfold AS.get at this ⊢;rw[h1]
  split
  ·rename_i hi
   simp only[hi,if_true]at this;have hb:Jl m (s'.sl.getD i .any):=by
    rw[K'];cases hx:s'.sl[i]? with
    |none=>exact fun _ v _=>.any v
    |some x=>exact h6 _ (ZAK hx)
   rcases HO h3 i with e |e
   ·rw[e];exact .any _
   ·rw[e]at this;exact hb c _ this
  ·rename_i hi
   simp only[hi,if_false]at this;have hb:Jl m (XM s'.tm i):=by
    have:∀l:List (Nat×AV),(∀p∈l,Jl m p.2)→Jl m (XM l i):=by
     intro l
     induction l with
     |nil=>exact fun _ _ v _=>.any v
     |cons x l ih =>
      intro hl;obtain⟨j,v⟩:=x;simp only[XM]
      split
      ·exact hl (j,v) (by simp)
      ·exact ih fun p hp=>hl p (by simp[hp])
    exact this _ h7
   rcases NA h4 i with e |e
   ·rw[e];exact .any _
   ·rw[e]at this;exact hb c _ this
 ·refine⟨?_,?_,?_,?_,hst.H_.bound⟩
  ·intro id v n f ho
   have hb:=TAW _ _ ho;rcases hst.H_.row id v n f (TAN _ _ ho).1 with h | ⟨b,sz,cs,el,g1,g2,g3,g4,g5,g6⟩
   ·exact .inl h
   ·exact .inr ⟨b,sz,cs,el,g1,g2,g3,g4,g5,fun j hj=>hb j hj c _ (g6 j hj)⟩
  ·intro id v n f ho
   have hb:=TAW _ _ ho;rcases hst.H_.con id v n f (TAN _ _ ho).1 with h | ⟨b,sz,cs,el,fr,g1,g2,g3,g4,g5,g6⟩
   ·exact .inl h
   ·exact .inr ⟨b,sz,cs,el,fr,g1,g2,g3,g4,g5,fun j hj=>hb j hj c _ (g6 j hj)⟩
  ·intro id k g ho
   have hb:=TAW _ _ ho;obtain⟨b,sz,es,cl,g1,g2,g3,g4⟩:=hst.H_.map id k g (TAN _ _ ho).1;exact⟨b,sz,es,cl,g1,g2,g3,g4.keys,g4.uniq,fun n a hn=>let ⟨e,he,hk,hr⟩:=g4.hit n a hn; ⟨e,he,hk,hb n a hn c _ hr⟩,g4.TB7⟩
  ·intro i i' o o' b sz sz' ho ho' g1 g2 hg hg'
   exact hst.H_.inj _ _ _ _ _ _ _ (TAN _ _ ho).1 (TAN _ _ ho').1 g1 g2 hg hg'
theorem Xj {X:Env}{ι:Type}{body:Code}{k:List Item}{s:AS}(st:ι→AS)(inv:ι→Prop)(μ:ι→Nat)(i0:ι)(h0:inv i0)(hs:Sub X.base s (st i0))
  (round:∀i,inv i→(∀j s',inv j→μ j<μ i→Sub X.base s' (st j)→Run X (.inLoop body :: k) s')→Run X (.code body :: .inLoop body :: k) (st i)):Run X (.code (.loop body) :: k) s:=by
 have key:∀n i,μ i=n→inv i→Run X (.code body :: .inLoop body :: k) (st i):=by
  intro n
  induction n using Nat.strongRecOn with
  |_ n ih =>
   intro i hn hi;refine round i hi fun j s' hj hlt TDO=>?_
   exact Ed ((ih (μ j) (by omega) j rfl hj).sub TDO)
 exact FN ((key _ i0 rfl h0).sub hs)
end
end Go.Ab
namespace Go.Ab
open Go Go.RowKit
noncomputable section
section
variable (X:Env) (n:Nat) (k:List Item) (s:AS)
theorem xB (a b:Code):vc X (n+1) (.code (.seq a b) :: k) s=vc X n (.code a :: .code b :: k) s:=C_ rfl
theorem sN:vc X (n+1) (.code .skip :: k) s=vc X n k s:=C_ rfl
theorem nM (l:Nat):vc X (n+1) (.code (.label l) :: k) s=vc X n k s:=C_ rfl
theorem nJ (i:Nat)(b:Code):vc X (n+1) (.code (.block i b) :: k) s=vc X n (.code b :: .inBlock i :: k) s:=C_ rfl
theorem nN (b:Code):vc X (n+1) (.code (.scope b) :: k) s=vc X n (.code b :: .inScope b :: k) s:=C_ rfl
theorem WJ (i:Nat):vc X (n+1) (.inBlock i :: k) s=vc X n k s:=C_ rfl
theorem WK (c:Code):vc X (n+1) (.inScope c :: k) s=vc X n k s:=C_ rfl
theorem sM (i:Nat):vc X (n+1) (.code (.exit i) :: k) s=match exitTo i k with |some k'=>vc X n k' s |none=>False:=rfl
theorem sK (o:Operand)(a b:Code):vc X (n+1) (.code (.cond o a b) :: k) s=match s.ev o with
 | .bool t=>(t=true→vc X n (.code a :: k) s)∧(t=false→vc X n (.code b :: k) s)
 | .TAg=>vc X n (.code a :: k) s∧vc X n (.code b :: k) s
 |_=>False:=rfl
variable (all:Array Oper) (st:Nat→Bool) (hc:Bool) (bs:Option Nat) (i nx:Nat) (os:List Oper)
theorem gx (M:Md):XA X (n+1) M [] k s=vc X n k s:=C_ rfl
theorem Ll (M:Md)(d:Option Nat)(op:Op)(t:TypeId)(p:String)(af:Array Edge)(j:Nat)(want:Bool):XA X (n+1) M (⟨d,op,t,p,af,some (j,want)⟩ :: os) k s =
  match (M.all[j]?).bind (·.dst)with
  |some e=>match s.get e with
    | .bool b=>(b=true→if want=true then Qr X n M ⟨d,op,t,p,af,some (j,want)⟩ os k (s.fix e (.bool true))else XA X n (M.next ⟨d,op,t,p,af,some (j,want)⟩) os k ((s.fix e (.bool true)).E' d XZ)) ∧
                 (b=false→if want=false then Qr X n M ⟨d,op,t,p,af,some (j,want)⟩ os k (s.fix e (.bool false))else XA X n (M.next ⟨d,op,t,p,af,some (j,want)⟩) os k ((s.fix e (.bool false)).E' d XZ))
    | .tup []=>XA X n (M.next ⟨d,op,t,p,af,some (j,want)⟩) os k (s.E' d XZ)
    |_=>False
  |none=>False:=rfl
theorem eZ (b:Nat)(o:Oper):Md.next ⟨all,st,hc,some b,i,nx⟩ o=⟨all,st,hc,some b,i+1,if QJ hc o.op=2 then nx+1 else nx⟩:=rfl
theorem Js (M:Md)(o:Oper)(h1:AN o.op=none)(h2:QJ M.C' o.op≠2) :
 Qr X (n+1) M o os k s=Q2 (Jk X.P (M.strict M.i) none o.op s.ev s.h) fun r=>XA X n (M.next o) os k (({ s with h:=r.2 }:AS).E' o.dst r.1):=by
 unfold Qr;simp only[h1];cases M.base with
 |none=>rfl
 |some b=>simp only[h2,if_false]
theorem Db (o:Oper)(h1:AN o.op=none) :
 Qr X (n+1) ⟨all,st,hc,none,i,nx⟩ o os k s=Q2 (Jk X.P (st i) none o.op s.ev s.h) fun r=>XA X n ⟨all,st,hc,none,i+1,nx⟩ os k (({ s with h:=r.2 }:AS).E' o.dst r.1):=by
 unfold Qr;simp only[h1];rfl
theorem Od (b:Nat)(o:Oper)(h1:AN o.op=none)(h2:QJ hc o.op=2) :
 Qr X (n+1) ⟨all,st,hc,some b,i,nx⟩ o os k s=(s.h[nx]?=some .D_∧Q2 (Jk X.P (st i) (some nx) o.op s.ev s.h) fun r=>XA X n ⟨all,st,hc,some b,i+1,nx+1⟩ os k (({ s with h:=r.2 }:AS).E' o.dst r.1)):=by
 unfold Qr;simp only[h1,h2,if_true,Md.next]
end
theorem Co {α β:Type}(f:α→β)(o:Option α)(K:β→Prop):Q2 (o.map f) K=Q2 o (fun x=>K (f x)):=by
 unfold Q2;cases o <;> simp
section
variable (X:Env) (n:Nat) (k:List Item) (s:AS) (all:Array Oper) (st:Nat→Bool) (hc:Bool) (bs:Option Nat) (i nx:Nat) (os:List Oper) (d:Option Nat) (t:TypeId) (p:String) (af:Array Edge) (g:Option (Nat×Bool))
theorem Jo (M:Md)(o:Oper)(h2:QJ M.C' o.op≠2):M.next o={ M with i:=M.i+1 }:=by
 unfold Md.next;cases M.base with
 |none=>rfl
 |some b=>simp[h2]
theorem Lk (o:Op)(v:AV)(h1:AN o=none)(h2:QJ hc o≠2)(h3:Jk X.P (st i) none o s.ev s.h=some (v,s.h)) :
 Qr X (n+1) ⟨all,st,hc,bs,i,nx⟩ ⟨d,o,t,p,af,g⟩ os k s=XA X n ⟨all,st,hc,bs,i+1,nx⟩ os k (s.E' d v):=by
 rw[Js (h1:=h1) (h2:=h2),h3,TAv,Jo (h2:=h2)]
theorem ZS (o:Op)(q:Option AV)(h1:AN o=none)(h2:QJ hc o≠2)(h3:Jk X.P (st i) none o s.ev s.h=q.map fun v=>(v,s.h)) :
 Qr X (n+1) ⟨all,st,hc,bs,i,nx⟩ ⟨d,o,t,p,af,g⟩ os k s=Q2 q fun v=>XA X n ⟨all,st,hc,bs,i+1,nx⟩ os k (s.E' d v):=by
 rw[Js (h1:=h1) (h2:=h2),h3,Co,Jo (h2:=h2)]
theorem gt (o:Op)(q:Option (List AO)) (h1:AN o=none) (h2:QJ hc o≠2) (h3:Jk X.P (st i) none o s.ev s.h=q.map fun h'=>(XZ,h')) :
 Qr X (n+1) ⟨all,st,hc,bs,i,nx⟩ ⟨d,o,t,p,af,g⟩ os k s=Q2 q fun h'=>XA X n ⟨all,st,hc,bs,i+1,nx⟩ os k (({ s with h:=h' }:AS).E' d XZ):=by
 rw[Js (h1:=h1) (h2:=h2),h3,Co,Jo (h2:=h2)]
theorem aa (x:Operand):Qr X (n+1) ⟨all,st,hc,bs,i,nx⟩ ⟨d,.move x,t,p,af,g⟩ os k s=XA X n ⟨all,st,hc,bs,i+1,nx⟩ os k (s.E' d (s.ev x)):=Lk _ _ _ _ _ _ _ _ _ _ _ _ _ _ _ _ _ _ rfl (by simp[QJ]) rfl
theorem OW (x:Operand):Qr X (n+1) ⟨all,st,hc,bs,i,nx⟩ ⟨d,.assign x,t,p,af,g⟩ os k s=XA X n ⟨all,st,hc,bs,i+1,nx⟩ os k (s.E' d (s.ev x)):=Lk _ _ _ _ _ _ _ _ _ _ _ _ _ _ _ _ _ _ rfl (by simp[QJ]) rfl
theorem YY (u:TypeId)(x:Operand):Qr X (n+1) ⟨all,st,hc,bs,i,nx⟩ ⟨d,.load u x,t,p,af,g⟩ os k s=Q2 (Qy X.P (st i) u (s.ev x) s.h) fun v=>XA X n ⟨all,st,hc,bs,i+1,nx⟩ os k (s.E' d v):=ZS _ _ _ _ _ _ _ _ _ _ _ _ _ _ _ _ _ _ rfl (by simp[QJ]) rfl
theorem mb (o:BinOp)(u u':TypeId)(x y:Operand):Qr X (n+1) ⟨all,st,hc,bs,i,nx⟩ ⟨d,.binOp o u x y u',t,p,af,g⟩ os k s=Q2 (M2 X.P o u y (s.ev x) (s.ev y)) fun v=>XA X n ⟨all,st,hc,bs,i+1,nx⟩ os k (s.E' d v):=ZS _ _ _ _ _ _ _ _ _ _ _ _ _ _ _ _ _ _ rfl (by simp[QJ]) rfl
theorem tX (o:UnOp)(u:TypeId)(x:Operand):Qr X (n+1) ⟨all,st,hc,bs,i,nx⟩ ⟨d,.unOp o u x,t,p,af,g⟩ os k s=Q2 (uV o (s.ev x)) fun v=>XA X n ⟨all,st,hc,bs,i+1,nx⟩ os k (s.E' d v):=ZS _ _ _ _ _ _ _ _ _ _ _ _ _ _ _ _ _ _ rfl (by simp[QJ]) rfl
theorem YW (u u':TypeId)(x:Operand):Qr X (n+1) ⟨all,st,hc,bs,i,nx⟩ ⟨d,.convert u u' x,t,p,af,g⟩ os k s=Q2 (Oh X.P u u' (s.ev x)) fun v=>XA X n ⟨all,st,hc,bs,i+1,nx⟩ os k (s.E' d v):=ZS _ _ _ _ _ _ _ _ _ _ _ _ _ _ _ _ _ _ rfl (by simp[QJ]) rfl
theorem Hm (u:TypeId)(x y:Operand):Qr X (n+1) ⟨all,st,hc,bs,i,nx⟩ ⟨d,.indexAddr u x y,t,p,af,g⟩ os k s=Q2 (DL X.P u (s.ev x) (s.ev y)) fun v=>XA X n ⟨all,st,hc,bs,i+1,nx⟩ os k (s.E' d v):=ZS _ _ _ _ _ _ _ _ _ _ _ _ _ _ _ _ _ _ rfl (by simp[QJ]) rfl
theorem Hl (u:TypeId)(x:Operand)(j:Nat):Qr X (n+1) ⟨all,st,hc,bs,i,nx⟩ ⟨d,.fieldAddr u x j,t,p,af,g⟩ os k s=Q2 (CM X.P u (s.ev x) j) fun v=>XA X n ⟨all,st,hc,bs,i+1,nx⟩ os k (s.E' d v):=ZS _ _ _ _ _ _ _ _ _ _ _ _ _ _ _ _ _ _ rfl (by simp[QJ]) rfl
theorem Tx (u:TypeId)(x:Operand)(j:Nat):Qr X (n+1) ⟨all,st,hc,bs,i,nx⟩ ⟨d,.field u x j,t,p,af,g⟩ os k s=Q2 (I2 X.P u (s.ev x) j) fun v=>XA X n ⟨all,st,hc,bs,i+1,nx⟩ os k (s.E' d v):=ZS _ _ _ _ _ _ _ _ _ _ _ _ _ _ _ _ _ _ rfl (by simp[QJ]) rfl
theorem Tv (u:TypeId)(ps:Array (Nat×Operand)):Qr X (n+1) ⟨all,st,hc,bs,i,nx⟩ ⟨d,.build u ps,t,p,af,g⟩ os k s=Q2 (Gc X.P u (ps.toList.map fun q=>(q.1,s.ev q.2))) fun v=>XA X n ⟨all,st,hc,bs,i+1,nx⟩ os k (s.E' d v):=ZS _ _ _ _ _ _ _ _ _ _ _ _ _ _ _ _ _ _ rfl (by simp[QJ]) rfl
def yl (st:Bool)(P:Program)(u:TypeId)(m:Nat)(ps:List (Nat×AV)) (h:List AO) (K:AV→List AO→Prop):Prop :=
 if st=true then Q2 (Zv P u m ps h) fun r=>K r.1 r.2 else Q2 (Ki P u m ps) fun v=>K v h
theorem G4 (u:TypeId)(m:Nat)(ps:Array (Nat×Operand)):Qr X (n+1) ⟨all,st,hc,bs,i,nx⟩ ⟨d,.buildSlice u m ps,t,p,af,g⟩ os k s=yl (st i) X.P u m (ps.toList.map fun q=>(q.1,s.ev q.2)) s.h fun v h'=>XA X n ⟨all,st,hc,bs,i+1,nx⟩ os k (({ s with h:=h' }:AS).E' d v):=by
 rw[Js (h1:=rfl) (h2:=by simp[QJ]),Jo (h2:=by simp[QJ])];unfold yl;show Q2 (if st i=true then Zv X.P u m (ps.toList.map fun q=>(q.1,s.ev q.2)) s.h else(Ki X.P u m (ps.toList.map fun q=>(q.1,s.ev q.2))).map fun v=>(v,s.h)) _=_;by_cases h:st i=true
 ·rw[N_ h,N_ h]
 ·rw[M_ h,M_ h,Co]
theorem Tz (u:TypeId)(x y:Operand):Qr X (n+1) ⟨all,st,hc,bs,i,nx⟩ ⟨d,.store u x y,t,p,af,g⟩ os k s=Q2 (ZC X.P (st i) u (s.ev x) (s.ev y) s.h) fun h'=>XA X n ⟨all,st,hc,bs,i+1,nx⟩ os k (({ s with h:=h' }:AS).E' d XZ):=gt _ _ _ _ _ _ _ _ _ _ _ _ _ _ _ _ _ _ rfl (by simp[QJ]) rfl
theorem IZ (x:Operand):Qr X (n+1) ⟨all,st,hc,bs,i,nx⟩ ⟨d,.nilCheck x,t,p,af,g⟩ os k s=((s.ev x).TAl=true∧XA X n ⟨all,st,hc,bs,i+1,nx⟩ os k (s.E' d (s.ev x))):=by
 rw[Js (h1:=rfl) (h2:=by simp[QJ]),Jo (h2:=by simp[QJ])];show Q2 (Qf _ (some (s.ev x,s.h))) _=_;rw[TA1,TAv]
theorem Ty (u:TypeId)(x:Operand)(lo hi:Option Operand):Qr X (n+1) ⟨all,st,hc,bs,i,nx⟩ ⟨d,.slice u x lo hi none,t,p,af,g⟩ os k s =
  Q2 (EF X.P u (s.ev x) (lo.map s.ev) (hi.map s.ev) none) fun v=>XA X n ⟨all,st,hc,bs,i+1,nx⟩ os k (s.E' d v):=by
 rw[Js (h1:=rfl) (h2:=by simp[QJ]),Jo (h2:=by simp[QJ])];show Q2 (Qf _ (ZAF _ _)) _=_;rw[TA1,Co];simp
theorem OX (u:TypeId)(x:Operand)(lo:Option Operand)(hi mx:Operand):Qr X (n+1) ⟨all,st,hc,bs,i,nx⟩ ⟨d,.slice u x lo (some hi) (some mx),t,p,af,g⟩ os k s =
  Q2 (EF X.P u (s.ev x) (lo.map s.ev) (some (s.ev hi)) (some (s.ev mx))) fun v=>XA X n ⟨all,st,hc,bs,i+1,nx⟩ os k (s.E' d v):=by
 rw[Js (h1:=rfl) (h2:=by simp[QJ]),Jo (h2:=by simp[QJ])];show Q2 (Qf _ (ZAF _ _)) _=_;rw[TA1,Co];simp
theorem rj (x y z:Operand):Qr X (n+1) ⟨all,st,hc,bs,i,nx⟩ ⟨d,.pick x y z,t,p,af,g⟩ os k s=(match s.ev x with
  | .bool true=>XA X n ⟨all,st,hc,bs,i+1,nx⟩ os k (s.E' d (s.ev y))
  | .bool false=>XA X n ⟨all,st,hc,bs,i+1,nx⟩ os k (s.E' d (s.ev z))
  |_=>False):=by
 rw[Js (h1:=rfl) (h2:=by simp[QJ]),Jo (h2:=by simp[QJ])];simp only[Jk];cases hx:s.ev x with
 |bool b=>cases b <;> simp
 |_=>simp
theorem Wa (x:Operand)(j:Nat):Qr X (n+1) ⟨all,st,hc,bs,i,nx⟩ ⟨d,.extract x j,t,p,af,g⟩ os k s=(match s.ev x with
  | .tup l=>j<l.length∧XA X n ⟨all,st,hc,bs,i+1,nx⟩ os k (s.E' d (l.getD j .any))
  |_=>False):=by
 rw[Js (h1:=rfl) (h2:=by simp[QJ]),Jo (h2:=by simp[QJ])];simp only[Jk];cases hx:s.ev x <;> simp
theorem IX (f:FuncId)(G_:Array Operand):Qr X (n+1) ⟨all,st,hc,bs,i,nx⟩ ⟨d,.makeFunc (.func f) #[] G_,t,p,af,g⟩ os k s=XA X n ⟨all,st,hc,bs,i+1,nx⟩ os k (s.E' d (.fn f (G_.toList.map s.ev))):=by
 rw[Js (h1:=rfl) (h2:=by simp[QJ]),Jo (h2:=by simp[QJ])];simp only[Jk];rw[show lQ f ((#[]:Array Operand).toList.map s.ev) (G_.toList.map s.ev)=some (.fn f (G_.toList.map s.ev))from rfl];simp
theorem IY (f:FuncId)(r:Operand):Qr X (n+1) ⟨all,st,hc,bs,i,nx⟩ ⟨d,.makeFunc (.func f) #[r] #[],t,p,af,g⟩ os k s=XA X n ⟨all,st,hc,bs,i+1,nx⟩ os k (s.E' d (.mfn f (s.ev r))):=by
 rw[Js (h1:=rfl) (h2:=by simp[QJ]),Jo (h2:=by simp[QJ])];simp only[Jk];rw[show lQ f ((#[r]:Array Operand).toList.map s.ev) ((#[]:Array Operand).toList.map s.ev)=some (.mfn f (s.ev r))from rfl];simp
theorem md (x:Operand)(u:TypeId):Qr X (n+1) ⟨all,st,hc,bs,i,nx⟩ ⟨d,.call { callee:=.builtin .len,args:=#[x],argTypes:=#[u] },t,p,af,g⟩ os k s =
  Q2 (NS X.P u (s.ev x)) fun v=>XA X n ⟨all,st,hc,bs,i+1,nx⟩ os k (s.E' d v):=ZS _ _ _ _ _ _ _ _ _ _ _ _ _ _ _ _ _ _ rfl (by simp[QJ]) rfl
theorem mf (x y:Operand)(us:Array TypeId):Qr X (n+1) ⟨all,st,hc,bs,i,nx⟩ ⟨d,.call { callee:=.builtin .min,args:=#[x,y],argTypes:=us },t,p,af,g⟩ os k s =
  Q2 (cE (s.ev x) (s.ev y)) fun v=>XA X n ⟨all,st,hc,bs,i+1,nx⟩ os k (s.E' d v):=ZS _ _ _ _ _ _ _ _ _ _ _ _ _ _ _ _ _ _ rfl (by simp[QJ]) rfl
theorem me (x y:Operand)(us:Array TypeId):Qr X (n+1) ⟨all,st,hc,bs,i,nx⟩ ⟨d,.call { callee:=.builtin .max,args:=#[x,y],argTypes:=us },t,p,af,g⟩ os k s =
  Q2 (cD (s.ev x) (s.ev y)) fun v=>XA X n ⟨all,st,hc,bs,i+1,nx⟩ os k (s.E' d v):=ZS _ _ _ _ _ _ _ _ _ _ _ _ _ _ _ _ _ _ rfl (by simp[QJ]) rfl
theorem OV (x y:Operand)(u:TypeId):Qr X (n+1) ⟨all,st,hc,bs,i,nx⟩ ⟨d,.call { callee:=.builtin .append,args:=#[x,y],argTypes:=#[u,u] },t,p,af,g⟩ os k s =
  Q2 (J5 X.P u (s.ev x) (s.ev y) s.h) fun r=>XA X n ⟨all,st,hc,bs,i+1,nx⟩ os k (({ s with h:=r.2 }:AS).E' d r.1):=by
 rw[Js (h1:=rfl) (h2:=by simp[QJ]),Jo (h2:=by simp[QJ])];show Q2 (if u=u then _ else _) _=_;rw[N_ rfl]
theorem YX (x y:Operand)(u u':TypeId):Qr X (n+1) ⟨all,st,hc,bs,i,nx⟩ ⟨d,.call { callee:=.builtin .copy,args:=#[x,y],argTypes:=#[u,u'] },t,p,af,g⟩ os k s =
  Q2 (FX X.P u (s.ev x) (s.ev y) s.h) fun r=>XA X n ⟨all,st,hc,bs,i+1,nx⟩ os k (({ s with h:=r.2 }:AS).E' d r.1):=by
 rw[Js (h1:=rfl) (h2:=by simp[QJ]),Jo (h2:=by simp[QJ])];rfl
theorem N5 (x y:Operand)(u u':TypeId)(hne:u≠u'):Qr X (n+1) ⟨all,st,hc,bs,i,nx⟩ ⟨d,.call { callee:=.builtin .append,args:=#[x,y],argTypes:=#[u,u'] },t,p,af,g⟩ os k s =
  Q2 (K8 X.P u u' (s.ev x) (s.ev y) s.h) fun r=>XA X n ⟨all,st,hc,bs,i+1,nx⟩ os k (({ s with h:=r.2 }:AS).E' d r.1):=by
 rw[Js (h1:=rfl) (h2:=by simp[QJ]),Jo (h2:=by simp[QJ])];show Q2 (if u=u' then _ else _) _=_;rw[M_ hne]
theorem Tu (u:TypeId):Qr X (n+1) ⟨all,st,hc,none,i,nx⟩ ⟨d,.alloc u,t,p,af,g⟩ os k s =
  Q2 (Bd X.P none u s.h) fun r=>XA X n ⟨all,st,hc,none,i+1,nx⟩ os k (({ s with h:=r.2 }:AS).E' d r.1):=Db _ _ _ _ _ _ _ _ _ _ _ rfl
theorem mc (u:TypeId)(x:Operand):Qr X (n+1) ⟨all,st,hc,none,i,nx⟩ ⟨d,.box u x,t,p,af,g⟩ os k s =
  Q2 (NO none (s.ev x) s.h) fun r=>XA X n ⟨all,st,hc,none,i+1,nx⟩ os k (({ s with h:=r.2 }:AS).E' d r.1):=Db _ _ _ _ _ _ _ _ _ _ _ rfl
theorem YZ (u:TypeId)(x y:Operand):Qr X (n+1) ⟨all,st,hc,none,i,nx⟩ ⟨d,.makeSlice u x y,t,p,af,g⟩ os k s =
  Q2 (Ep X.P none u (s.ev x) (s.ev y) s.h) fun r=>XA X n ⟨all,st,hc,none,i+1,nx⟩ os k (({ s with h:=r.2 }:AS).E' d r.1):=Db _ _ _ _ _ _ _ _ _ _ _ rfl
variable (b:Nat)
theorem OU (u:TypeId):Qr X (n+1) ⟨all,st,hc,some b,i,nx⟩ ⟨d,.alloc u,t,p,af,g⟩ os k s =
  (s.h[nx]?=some .D_∧Q2 (Bd X.P (some nx) u s.h) fun r=>XA X n ⟨all,st,hc,some b,i+1,nx+1⟩ os k (({ s with h:=r.2 }:AS).E' d r.1)):=Od _ _ _ _ _ _ _ _ _ _ _ _ rfl rfl
variable (n0:Nat) (hid:List Nat) (sl:List AV) (tm:List (Nat×AV)) (h:List AO)
theorem vW (t:Nat):AS.ev ⟨n0,hid,sl,tm,h⟩ (.tmp t)=if t<n0 then sl.getD t .any else XM tm t:=C_ rfl
theorem kh (s:AS)(v:Value):s.ev (.const v)=Ou v:=C_ rfl
theorem qg (s:AS)(f:FuncId):s.ev (.func f)=.fn f []:=C_ rfl
theorem qT (t:Nat):AS.get ⟨n0,hid,sl,tm,h⟩ t=if t<n0 then sl.getD t .any else XM tm t:=C_ rfl
theorem fD (i:Nat)(v:AV):AS.E' ⟨n0,hid,sl,tm,h⟩ (some i) v=if i<n0 then⟨n0,hid,sl.set i v,tm,h⟩else⟨n0,hid,sl,(i,v) :: tm,h⟩:=C_ rfl
theorem fA (s:AS)(v:AV):s.E' none v=s:=C_ rfl
theorem qm (i:Nat)(v:AV):AS.fix ⟨n0,hid,sl,tm,h⟩ i v=if i<n0 then⟨n0,hid,sl.set i v,tm,h⟩else⟨n0,hid,sl,Nl tm i v,h⟩:=C_ rfl
theorem pS:AS.clr ⟨n0,[],sl,tm,h⟩=⟨n0,[],sl,[],h⟩:=by simp[AS.clr]
def IJ (hid:List Nat):List (Nat×AV)→List (Nat×AV)
 | []=>[]
 | (i,v) :: l=>if hid.contains i=true then(i,v) :: IJ hid l else IJ hid l
theorem pR (j:Nat)(TBU:List Nat):AS.clr ⟨n0,j :: TBU,sl,tm,h⟩=⟨n0,j :: TBU,sl,IJ (j :: TBU) tm,h⟩:=by
 unfold AS.clr;congr 1;show tm.filter (fun p=>(j :: TBU).contains p.1)=_
 induction tm with
 |nil=>rfl
 |cons x l ih =>
  obtain⟨i,v⟩:=x;simp only[ZDD,IJ,ih]
def Gg (C':Bool):List Oper→Nat
 | []=>0
 |o :: os=>(if QJ C' o.op=2 then 1 else 0)+Gg C' os
theorem dz (C':Bool)(ops:Array Oper):EI C' ops=Gg C' ops.toList:=by
 unfold EI
 induction ops.toList with
 |nil=>rfl
 |cons o os ih =>
  simp only[ZDD,Gg];by_cases hc:QJ C' o.op=2
  ·simp[hc,ih];omega
  ·simp[hc,ih]
theorem dC (C':Bool)(ops:Array Oper):EL C' ops ⟨n0,hid,sl,tm,h⟩ =
  ⟨n0,hid,sl,(AS.clr ⟨n0,hid,sl,tm,h⟩).tm,h ++ ZAP (Gg C' ops.toList) .D_⟩:=by
 unfold EL;rw[dz];rfl
end
theorem pX (k:IntKind)(n:Int):Ou (.int k n)=.int k n:=C_ rfl
theorem jE (b:Bool):Ou (.bool b)=.bool b:=C_ rfl
theorem pY:Ou (.pointer none)=.nil:=C_ rfl
theorem vw:Ou (.slice none 0 0)=.sl 0 0 (fun _=>.any) true:=C_ rfl
theorem vu:Ou .nilFunc=.TBe:=C_ rfl
def J8 {α:Type}(e:α→AV)(d:α)(l:List α):Nat→AV:=fun j=>e (l.getD j d)
def QG {α:Type}(e:α→AV)(d:α)(l:List α):AV:=.sl l.length l.length (J8 e d l) false
def I (n:Int):AV:=.int .i64 n
def X9 (l:List Int):AV:=QG I 0 l
def CN (l:List Bool):AV:=QG AV.bool false l
def Dq (l:List (List Int)):AV:=QG X9 [] l
def Xw {α:Type}(e:α→List AV)(s:Nat)(d:α)(l:List α):Nat→AV:=fun j=>(e (l.getD (j/s) d)).getD (j%s) .any
def gE {α:Type}(e:α→List AV)(s:Nat)(d:α)(l:List α):AV:=.sl l.length (l.length*s) (Xw e s d l) false
theorem Ze {α:Type}(e:α→List AV)(s:Nat)(d:α)(l:List α)(i j:Nat)(hj:j<s):Xw e s d l (i*s+j)=(e (l.getD i d)).getD j .any:=by
 unfold Xw;rw[ZBH,Nat.mul_add_div (by omega),Nat.mul_add_mod,Nat.div_eq_of_lt hj,ZAJ hj,ZAm]
theorem ZO {α:Type}(e:α→List AV)(s:Nat)(d:α)(l:List α)(i:Nat)(hj:0<s:=by omega):Xw e s d l (i*s)=(e (l.getD i d)).getD 0 .any:=by
 simpa using Ze e s d l i 0 hj
theorem Bs {α:Type}(e:α→AV)(d:α)(l:List α)(j:Nat):J8 e d l j=e (l.getD j d):=C_ rfl
theorem xS (n:Int):I n=.int .i64 n:=C_ rfl
theorem X8 (n:Int):A_ (I n):=Jv _ _
theorem Fg {α:Type}{e:α→AV}{d:α}{l:List α}(h:∀a,A_ (e a)):A_ (QG e d l):=Qw fun _ _=>h _
theorem Xd (l:List Int):A_ (X9 l):=Fg X8
theorem Oa (l:List Bool):A_ (CN l):=Fg X5
theorem Kb (l:List (List Int)):A_ (Dq l):=Fg Xd
theorem Xe {l:List AV}(hl:∀ a∈l,A_ a)(j:Nat):A_ (l.getD j .any):=by
 rw[K'];cases hx:l[j]? with
 |none=>exact Jg
 |some x=>exact hl _ (ZAK hx)
theorem Z4 {α:Type}{e:α→List AV}{s:Nat}{d:α}{l:List α}(h:∀a,∀x∈e a,A_ x):A_ (gE e s d l):=Qw fun _ _=>Xe (h _) _
theorem iV {α:Type}(e:α→AV)(d:α)(l m:List α):XV (l.length*1) (J8 e d l) (m.length*1) (J8 e d m)=J8 e d (l ++ m):=by
 funext j;unfold XV J8;simp only[ZCS,K'];by_cases h1:j<l.length
 ·rw[N_ h1,T_ h1]
 ·rw[M_ h1,g_ (by omega)]
  by_cases h2:j<l.length+m.length
  ·rw[N_ h2]
  ·rw[M_ h2,k_ (by omega),k_ (by omega)]
theorem iU {α:Type}(e:α→AV)(d:α)(l:List α)(x:α):XV (l.length*1) (J8 e d l) (1*1) (Xf [e x])=J8 e d (l ++ [x]):=by
 rw[←iV e d l [x]];funext j;unfold XV Xf J8;simp only[ZAA,ZAN,ZCS,z_];by_cases h1:j<l.length
 ·rw[N_ h1,N_ h1]
 ·by_cases h2:j<l.length+1
  ·obtain rfl:j=l.length:=by omega
   simp
  ·rw[M_ h1,M_ h2,M_ h1,M_ h2]
theorem sH {α:Type}(e:α→AV)(d:α)(l:List α)(i:Nat)(x:α)(h:i<l.length):De (J8 e d l) i (e x)=J8 e d (l.set i x):=by
 funext j;unfold De J8;simp only[K'];by_cases hj:j=i
 ·subst hj;simp[h]
 ·rw[M_ hj,L_ (w_ hj)]
theorem sG (l:List AV)(i:Nat)(a:AV)(h:i<l.length):De (Xf l) i a=Xf (l.set i a):=by
 funext j;unfold De Xf;simp only[K'];by_cases hj:j=i
 ·subst hj;simp[h]
 ·rw[M_ hj,L_ (w_ hj)]
structure Fn (P:Program)(f:FuncId)(args:List AV)(r:AV):Prop where
 call:TA4 P f args r
 settled:∀a∈args,A_ a
theorem X2 {X:Env}{M:Md}{o:Oper}{g:FuncId}{G_ args as':List AV}{K:AS→Prop}{s:AS}{r:AV}(h:Fn X.P g as' r)(ha:(args ++ G_).map AV.loose=as') (hK:K (s.E' o.dst r)) :
  GE X M o (.fn g G_) args K s:=by
 subst ha;exact⟨r,s.h,⟨.inl g,args ++ G_,rfl,.inl ⟨_,Lm _,h.call,h.settled,rfl⟩⟩,hK⟩
theorem X0 {X:Env}{M:Md}{o:Oper}{g:FuncId}{G_ args as':List AV}{K:AS→Prop}{s:AS}{r:AV}(h:Fn X.P g as' r)(ha:TAF (args ++ G_) as') (hK:K (s.E' o.dst r)) :
  GE X M o (.fn g G_) args K s :=
 ⟨r,s.h,⟨.inl g,args ++ G_,rfl,.inl ⟨_,ha,h.call,h.settled,rfl⟩⟩,hK⟩
theorem sT {n m m':Nat}{f f':Nat→AV}{t:Bool}(hm:m'≤m)(hf:∀j,j<m'→f j=f' j):B' (.sl n m f t) (.sl n m' f' false):=fun c v h=>by
 cases h with
 |sl b base _ _ cap _ _ us hS hc hr hn ht=>exact .sl b base n m' cap f' false us hS (fun j hj=>hc j (by omega)) (fun j hj=>by rw[←hf j hj];exact hr j (by omega)) hn (by simp)
 |slz a cap _ _ ht =>
  obtain rfl:m'=0:=by omega
  exact .slz _ _ _ _ (by simp)
theorem Oq {X:Env}{M:Md}{o:Oper}{g:FuncId}{G_ args as':List AV}{K:AS→Prop}{s:AS}{r:AV}(h:Fn X.P g as' r)(hst:M.strict M.i=false)(ha:TBR s.h ((args ++ G_).map AV.loose) as') (hf:oF r) (hK:K (s.E' o.dst r)) :
  GE X M o (.fn g G_) args K s :=
 ⟨r,s.h,⟨.inl g,args ++ G_,rfl,.inr (.inl ⟨hst,as',ha,h.call,hf,rfl⟩)⟩,hK⟩
theorem XC {X:Env}{M:Md}{o:Oper}{g:FuncId}{G_ args as':List AV}{K:AS→Prop}{s:AS}{r:AV}{H':List AO}(hb:M.C'=true)(h:G' X.P g as' s.h r H')(TBq:K5 s.h H')
  (hu:∀id:Nat,s.h[id]?≠some .D_) (ha:TAF (args ++ G_) as') (hK:K (({ s with h:=H' }:AS).E' o.dst r)):GE X M o (.fn g G_) args K s:=by
 refine⟨r,H',⟨.inl g,args ++ G_,rfl,.inr (.inr ⟨hb,as',ha,fun _=>H',fun h2 ho=>?_,rfl,TBq,fun h2 id ob _ hid=>absurd hid (hu id),fun id hid=>absurd hid (hu id)⟩)⟩,hK⟩;have:h2=s.h:=by
  apply ZAp;intro i;exact ho i (hu i)
 rw[this];exact h
theorem Fn.intro {P:Program}{f:FuncId}{fn:Func}{body:Code}(he:Cs P f)(hf:P.funcs[f]?=some fn)(hb:fn.body=some body)(hm:P.follows .mixedOrders=true){args:List AV}{r:AV}
  (n0:Nat) (hid str hcs:List Nat) (hok:QO fn.ntmps str hcs body=true) (hlen:args.length≤fn.ntmps) (hs:∀a∈args,A_ a)
  (h:Run (JK P fn str hcs r) [.code body] (AS.start n0 hid args [])):Fn P f args r :=
 ⟨TA4.intro he hf hb hm n0 hid str hcs hok hlen h,hs⟩
theorem EO {N:Nat}{c c':Ctx}{a:Act}{s:AS}(hst:St N c a s)(hx:Ext c c')(hr:I' c'){i:Nat}{v:AV}(hv:Rep c' (a.tmps.getD i undef) v):St N c' a (({ s with h:=c'.H }:AS).put i v):=by
 refine⟨hst.size,hst.defers,fun j=>?_,by simp,hr⟩;rcases YG ({ s with h:=c'.H }:AS) i j v with⟨h1,h2⟩ |h1 | ⟨h1,h2⟩
 ·rw[h1,h2];exact hv
 ·rw[h1];exact .any _
 ·rw[h2];exact hx.rep hst.H_ (hst.TAQ j)
theorem JS {m:Nat}{s:AS}(i es:Nat)(f:Nat→AV){M:Nat}{g:Nat→AV}(hi:s.get i=.sl 0 M g true) :
  Sub m s (({ s with h:=s.h ++ [.row 0 0 f] }:AS).put i (.osl s.h.length 0 es 0 0)):=by
 intro N c a hst;have hH:=hst.heap;have TAM:(c.H ++ [AO.row 0 0 f])[c.H.length]?=some (.row 0 0 f):=by simp
 have TAI:∀i,i≠c.H.length→(c.H ++ [AO.row 0 0 f])[i]?=c.H[i]?:=fun i hi=>by
  have:=AA (nid:=none) (h:=c.H) (o:=.row 0 0 f) i (by simpa [QN]using hi)
  simpa [KL]using this
 obtain⟨g1,g2⟩:=HV hst.H_ (id:=c.H.length) (ver:=0) (w:=c.w) TAM TAI rfl (.inl (by simp));refine⟨⟨c.w,c.S,K2 c.γ c.H.length none,c.H ++ [.row 0 0 f]⟩,rfl,g2.toB m,?_⟩;have hv:=hst.TAQ i;rw[hi]at hv;have:=EO hst g2 g1 (i:=i) (v:=.osl c.H.length 0 es 0 0) (by
  have J_:inf (c.H ++ [AO.row 0 0 f]) c.H.length=some 0:=by simp[inf,AO.info]
  cases hq:a.tmps.getD i undef with
  |slice b n cap =>
   rw[hq]at hv;cases hv with
   |sl _ _ _ _ _ _ _ _ _ _ _ _ ht=>have:=ht rfl;subst this;exact .TAh _ _ _ _ _ J_
   |slz _ _ _ _ ht=>have:=ht rfl;subst this;exact .TAh _ _ _ _ _ J_
  |_=>rw[hq]at hv;cases hv)
 simp only[hH]at this ⊢;exact this
theorem HP {m:Nat}{s:AS}(i:Nat){id ver es off n k M:Nat}{f:Nat→AV}(hi:s.get i=.osl id ver es off n)(ho:s.h[id]?=some (.con ver k f)) (hle:off+M≤k:=by omega) (hM:n=0→M=0:=by omega) :
  Sub m s (s.put i (.sl n M (fun j=>f (off+j)) false)):=by
 intro N c a hst;have hH:=hst.heap;refine⟨c,rfl,(Ext.refl c).toB m,?_⟩;rw[←hH]at ho;have J_:inf c.H id=some ver:=by simp[inf,ho,AO.info]
 have hns:¬TAe c.H id ver:=by
  rintro(⟨v',hi,hlt⟩ |hd)
  ·rw[J_]at hi;cases hi;omega
  ·simp[inf,hd,AO.info]at J_
 have hv:=hst.TAQ i;rw[hi]at hv;have hz:n=0→∀b cap,Rep c (.slice b 0 cap) (.sl n M (fun j=>f (off+j)) false):=by
  rintro hn b cap;rw[hn,hM hn];exact .slz _ _ _ _ (by simp)
 have:=EO hst (Ext.refl c) hst.H_ (i:=i) (v:=.sl n M (fun j=>f (off+j)) false) (by
  generalize a.tmps.getD i undef=q at hv;cases hv with
  |osl _ _ _ _ _ cap b sz hi hg hn TAY hmx =>
   rcases hst.H_.con id ver k f ho with⟨h1,_⟩ | ⟨b',sz',cs,el,fr,h1,h2,h3,h4,h5,h6⟩
   ·rw[h1]at hg;cases hg
   ·rw[h1]at hg;cases hg
    refine .sl b off n M cap _ false (fun j=>cs.getD (off+j) undef) h5 (fun j hj=>?_) (fun j hj=>h6 _ (by omega)) hn (by simp);have hlt:off+j<cs.size:=by omega
    rw[cell_of_row c.w b _ cs el fr h2];simp[hlt,Array.getD]
  |TAh _ _ _ _ b hi=>exact hz rfl b 0
  |TAL _ _ _ _ _ b cap hn hs=>exact absurd hs hns
  |TAG _ _ _ _ b hs=>exact absurd hs hns)
 rwa[show({ s with h:=c.H }:AS)=s by rw[hH]]at this
theorem XK {m:Nat}{s:AS}(i:Nat){id ver off k:Nat}{f:Nat→AV}(hi:s.get i=.ref id ver off)(ho:s.h[id]?=some (.con ver k f)) (hk:0<k:=by omega) :
  Sub m s (s.put i (.ptr k f off)):=by
 intro N c a hst;have hH:=hst.heap;refine⟨c,rfl,(Ext.refl c).toB m,?_⟩;rw[←hH]at ho;have J_:inf c.H id=some ver:=by simp[inf,ho,AO.info]
 have hns:¬TAe c.H id ver:=by
  rintro(⟨v',hi,hlt⟩ |hd)
  ·rw[J_]at hi;cases hi;omega
  ·simp[inf,hd,AO.info]at J_
 have hv:=hst.TAQ i;rw[hi]at hv;have:=EO hst (Ext.refl c) hst.H_ (i:=i) (v:=.ptr k f off) (by
  generalize a.tmps.getD i undef=q at hv;cases hv with
  |ref _ _ _ b sz hi hg =>
   rcases hst.H_.con id ver k f ho with⟨h1,h2⟩ | ⟨b',sz',cs,el,fr,h1,h2,h3,h4,h5,h6⟩
   ·omega
   ·rw[h1]at hg;cases hg
    have:=Rep.ptr (c:=c) b 0 k off f (fun j=>cs.getD j undef) h5 (fun j hj=>ZU h2 (by omega) j hj) h6;rwa[z_]at this
  |TAR _ _ _ b hs=>exact absurd hs hns)
 rwa[show({ s with h:=c.H }:AS)=s by rw[hH]]at this
end
end Go.Ab
namespace Go.Ab
open Go Go.RowKit
noncomputable section
@[congr] theorem TDa {α:Type}{o o':Option α}{K:α→Prop}(h:o=o'):Q2 o K=Q2 o' K:=by rw[h]
@[congr] theorem TEd {X:Env}{n:Nat}{k:List Item}{s s':AS}(h:s=s'):vc X n k s=vc X n k s':=by rw[h]
@[congr] theorem TDb {X:Env}{n:Nat}{M:Md}{os:List Oper}{k:List Item}{s s':AS}(h:s=s'):XA X n M os k s=XA X n M os k s':=by rw[h]
@[congr] theorem TD1 {X:Env}{n:Nat}{M:Md}{o:Oper}{os:List Oper}{k:List Item}{s s':AS}(h:s=s'):Qr X n M o os k s=Qr X n M o os k s':=by rw[h]
@[congr] theorem TD2 {X:Env}{k:List Item}{s s':AS}(h:s=s'):bh X k s=bh X k s':=by rw[h]
@[congr] theorem TEO {X:Env}{k:List Item}{s s':AS}(h:s=s'):Run X k s=Run X k s':=by rw[h]
@[congr] theorem TDc {X:Env}{s s':AS}(h:s=s'):TAC X s=TAC X s':=by rw[h]
@[congr] theorem TD3 {X:Env}{s s':AS}(h:s=s'):TBT X s=TBT X s':=by rw[h]
@[congr] theorem TDd {X:Env}{M:Md}{o:Oper}{f f':AV}{args TB3:List AV}{K:AS→Prop}{s s':AS}(h1:f=f')(h2:args=TB3)(h3:s=s'):GE X M o f args K s=GE X M o f' TB3 K s':=by rw[h1,h2,h3]
@[congr] theorem TDe {b:Bool}{ops:Array Oper}{s s':AS}(h:s=s'):EL b ops s=EL b ops s':=by rw[h]
def Cw (ops:Array Oper)(j:Nat):Option Nat:=(ops[j]?).bind (·.dst)
@[congr] theorem TDf {ops:Array Oper}{j j':Nat}(h:j=j'):Cw ops j=Cw ops j':=by rw[h]
theorem VC (o:Oper)(l:List Oper):Cw (o :: l).toArray 0=o.dst:=by simp[Cw]
theorem VB (o:Oper)(l:List Oper)(j:Nat):Cw (o :: l).toArray (j+1)=Cw l.toArray j:=by simp[Cw]
def Zt (b:Bool)(T F:Prop):Prop:=(b=true→T)∧(b=false→F)
@[congr] theorem TDP {b b':Bool}{T F:Prop}(h:b=b'):Zt b T F=Zt b' T F:=by rw[h]
theorem Qs {b:Bool}{T F:Prop}(h1:b=true→T)(h2:b=false→F):Zt b T F:=⟨h1,h2⟩
theorem IM (T F:Prop):Zt true T F=T:=by simp[Zt]
theorem E1 (T F:Prop):Zt false T F=F:=by simp[Zt]
theorem MJ (p:Prop) [Decidable p] (T F:Prop):Zt (decide p) T F=((p→T)∧(¬p→F)):=by simp[Zt]
theorem IL (p:Prop) [Decidable p] (T F:Prop):Zt (!decide p) T F=((¬p→T)∧(p→F)):=by simp[Zt]
def xJ (a:AV)(T F:Prop):Prop:=match a with | .bool b=>Zt b T F | .TAg=>T∧F |_=>False
@[congr] theorem TEP {a a':AV}{T F:Prop}(h:a=a'):xJ a T F=xJ a' T F:=by rw[h]
theorem I7 (T F:Prop):xJ .TAg T F=(T∧F):=C_ rfl
theorem Mn (b:Bool)(T F:Prop):xJ (.bool b) T F=Zt b T F:=C_ rfl
def ow (a:AV)(T F U:Prop):Prop:=match a with | .bool b=>Zt b T F | .tup []=>U |_=>False
@[congr] theorem TEQ {a a':AV}{T F U:Prop}(h:a=a'):ow a T F U=ow a' T F U:=by rw[h]
theorem SZ (b:Bool)(T F U:Prop):ow (.bool b) T F U=Zt b T F:=C_ rfl
theorem OD (T F U:Prop):ow XZ T F U=U:=C_ rfl
def pZ (o:Option Nat)(K:Nat→Prop):Prop:=match o with |some e=>K e |none=>False
@[congr] theorem TER {o o':Option Nat}{K:Nat→Prop}(h:o=o'):pZ o K=pZ o' K:=by rw[h]
theorem SI (e:Nat)(K:Nat→Prop):pZ (some e) K=K e:=C_ rfl
def wO (a:AV)(T F:Prop):Prop:=match a with | .bool true=>T | .bool false=>F |_=>False
@[congr] theorem TES {a a':AV}{T F:Prop}(h:a=a'):wO a T F=wO a' T F:=by rw[h]
theorem TA (T F:Prop):wO (.bool true) T F=T:=C_ rfl
theorem OY (T F:Prop):wO (.bool false) T F=F:=C_ rfl
def oz (a:AV)(j:Nat)(K:AV→Prop):Prop:=match a with | .tup l=>j<l.length∧K (l.getD j .any) |_=>False
@[congr] theorem TET {a a':AV}{j:Nat}{K:AV→Prop}(h:a=a'):oz a j K=oz a' j K:=by rw[h]
theorem UN (a:AV)(l:List AV)(K:AV→Prop):oz (.tup (a :: l)) 0 K=K a:=by simp[oz]
theorem UM (a:AV)(l:List AV)(j:Nat)(K:AV→Prop):oz (.tup (a :: l)) (j+1) K=oz (.tup l) j K:=by simp[oz]
def yr (o:Option (List Item)) (K:List Item→Prop):Prop:=match o with |some k=>K k |none=>False
@[congr] theorem TEU {o o':Option (List Item)} {K:List Item→Prop} (h:o=o'):yr o K=yr o' K:=by rw[h]
theorem SM (k:List Item)(K:List Item→Prop):yr (some k) K=K k:=C_ rfl
theorem nK (X:Env)(n:Nat)(k:List Item)(s:AS)(o:Operand)(a b:Code):vc X (n+1) (.code (.cond o a b) :: k) s=xJ (s.ev o) (vc X n (.code a :: k) s) (vc X n (.code b :: k) s):=by
 rw[sK];unfold xJ Zt;cases s.ev o <;> rfl
theorem nL (X:Env)(n:Nat)(k:List Item)(s:AS)(i:Nat):vc X (n+1) (.code (.exit i) :: k) s=yr (exitTo i k) fun k'=>vc X n k' s:=by
 rw[sM];unfold yr;cases exitTo i k <;> rfl
theorem mg (X:Env)(n:Nat)(k:List Item)(s:AS)(all:Array Oper)(st:Nat→Bool)(hc:Bool)(bs:Option Nat)(i nx:Nat)(os:List Oper)(d:Option Nat)(t:TypeId)(p:String)(af:Array Edge)(g:Option (Nat×Bool)) (x y z:Operand) :
  Qr X (n+1) ⟨all,st,hc,bs,i,nx⟩ ⟨d,.pick x y z,t,p,af,g⟩ os k s=wO (s.ev x) (XA X n ⟨all,st,hc,bs,i+1,nx⟩ os k (s.E' d (s.ev y))) (XA X n ⟨all,st,hc,bs,i+1,nx⟩ os k (s.E' d (s.ev z))):=by
 rw[rj];unfold wO;cases hx:s.ev x with
 |bool b=>cases b <;> rfl
 |_=>rfl
theorem Tw (X:Env)(n:Nat)(k:List Item)(s:AS)(all:Array Oper)(st:Nat→Bool)(hc:Bool)(bs:Option Nat)(i nx:Nat)(os:List Oper)(d:Option Nat)(t:TypeId)(p:String)(af:Array Edge)(g:Option (Nat×Bool)) (x:Operand) (j:Nat) :
  Qr X (n+1) ⟨all,st,hc,bs,i,nx⟩ ⟨d,.extract x j,t,p,af,g⟩ os k s=oz (s.ev x) j fun v=>XA X n ⟨all,st,hc,bs,i+1,nx⟩ os k (s.E' d v):=by
 rw[Wa];unfold oz;cases hx:s.ev x <;> rfl
theorem gv (X:Env)(n:Nat)(k:List Item)(s:AS)(all:Array Oper)(st:Nat→Bool)(hc:Bool)(bs:Option Nat)(i nx:Nat)(os:List Oper)
  (d:Option Nat) (op:Op) (t:TypeId) (p:String) (af:Array Edge) (j:Nat):XA X (n+1) ⟨all,st,hc,bs,i,nx⟩ (⟨d,op,t,p,af,some (j,true)⟩ :: os) k s =
 pZ (Cw all j) fun e=>ow (s.get e) (Qr X n ⟨all,st,hc,bs,i,nx⟩ ⟨d,op,t,p,af,some (j,true)⟩ os k (s.fix e (.bool true)))
  (XA X n (Md.next ⟨all,st,hc,bs,i,nx⟩ ⟨d,op,t,p,af,some (j,true)⟩) os k ((s.fix e (.bool false)).E' d XZ))
  (XA X n (Md.next ⟨all,st,hc,bs,i,nx⟩ ⟨d,op,t,p,af,some (j,true)⟩) os k (s.E' d XZ)):=by
 rw[Ll];show(match Cw all j with |some e=>_ |none=>False)=_;unfold pZ;cases Cw all j with
 |none=>rfl
 |some e =>
  simp only;cases hx:s.get e with
  |bool b=>simp only[ow,Zt];simp
  |tup l=>cases l <;> rfl
  |_=>rfl
theorem gu (X:Env)(n:Nat)(k:List Item)(s:AS)(all:Array Oper)(st:Nat→Bool)(hc:Bool)(bs:Option Nat)(i nx:Nat)(os:List Oper)
  (d:Option Nat) (op:Op) (t:TypeId) (p:String) (af:Array Edge) (j:Nat):XA X (n+1) ⟨all,st,hc,bs,i,nx⟩ (⟨d,op,t,p,af,some (j,false)⟩ :: os) k s =
 pZ (Cw all j) fun e=>ow (s.get e) (XA X n (Md.next ⟨all,st,hc,bs,i,nx⟩ ⟨d,op,t,p,af,some (j,false)⟩) os k ((s.fix e (.bool true)).E' d XZ))
  (Qr X n ⟨all,st,hc,bs,i,nx⟩ ⟨d,op,t,p,af,some (j,false)⟩ os k (s.fix e (.bool false)))
  (XA X n (Md.next ⟨all,st,hc,bs,i,nx⟩ ⟨d,op,t,p,af,some (j,false)⟩) os k (s.E' d XZ)):=by
 rw[Ll];show(match Cw all j with |some e=>_ |none=>False)=_;unfold pZ;cases Cw all j with
 |none=>rfl
 |some e =>
  simp only;cases hx:s.get e with
  |bool b=>simp only[ow,Zt];simp
  |tup l=>cases l <;> rfl
  |_=>rfl
theorem UF (X:Env)(n:Nat)(k:List Item)(s:AS)(all:Array Oper)(st:Nat→Bool)(hc:Bool)(i nx:Nat)(o:Oper)(os:List Oper) :
  XA X n (Md.next ⟨all,st,hc,none,i,nx⟩ o) os k s=XA X n ⟨all,st,hc,none,i+1,nx⟩ os k s:=C_ rfl
theorem UG (X:Env)(n:Nat)(k:List Item)(s:AS)(all:Array Oper)(st:Nat→Bool)(hc:Bool)(b i nx:Nat)(o:Oper)(os:List Oper) :
  XA X n (Md.next ⟨all,st,hc,some b,i,nx⟩ o) os k s=if QJ hc o.op=2 then XA X n ⟨all,st,hc,some b,i+1,nx+1⟩ os k s else XA X n ⟨all,st,hc,some b,i+1,nx⟩ os k s:=by
 rw[eZ]
 split <;> simp[*]
theorem UE (X:Env)(n:Nat)(k:List Item)(s:AS)(all:Array Oper)(st:Nat→Bool)(hc:Bool)(bs:Option Nat)(i nx:Nat)(os:List Oper)
  (d:Option Nat) (op:Op) (t:TypeId) (p:String) (af:Array Edge):XA X (n+1) ⟨all,st,hc,bs,i,nx⟩ (⟨d,op,t,p,af,none⟩ :: os) k s=Qr X n ⟨all,st,hc,bs,i,nx⟩ ⟨d,op,t,p,af,none⟩ os k s:=C_ rfl
theorem dH (i j:Nat)(k:List Item):exitTo i (.inBlock j :: k)=if i=j then some k else exitTo i k:=by
 simp only[exitTo,beq_iff_eq]
 first |rfl | (by_cases h:i=j <;> simp[h,eq_comm])
theorem SS (i:Nat)(c:Code)(k:List Item):exitTo i (.code c :: k)=exitTo i k:=C_ rfl
theorem ST (i:Nat)(c:Code)(k:List Item):exitTo i (.inLoop c :: k)=exitTo i k:=C_ rfl
@[congr] theorem TDQ {i i':Nat}{k:List Item}(h:i=i'):exitTo i k=exitTo i' k:=by rw[h]
section
variable (P:Program) (fn:Func) (str hcs:List Nat) (b:Nat) (r:AV) (H':List AO)
theorem Rd:(JK P fn str hcs r).P=P:=C_ rfl
theorem Fz:(JK P fn str hcs r).fn=fn:=C_ rfl
theorem jZ:(JK P fn str hcs r).str=str:=C_ rfl
theorem jY:(JK P fn str hcs r).hcs=hcs:=C_ rfl
theorem vQ:(MB P fn str hcs b r H').P=P:=C_ rfl
theorem Yu:(MB P fn str hcs b r H').fn=fn:=C_ rfl
theorem jT:(MB P fn str hcs b r H').str=str:=C_ rfl
theorem jS:(MB P fn str hcs b r H').hcs=hcs:=C_ rfl
end
section
variable (P:Program)
theorem EV {α:Type}{p:Prop}(h:p)(x:Option α):Qf p x=x:=N_ h
theorem bJ (op:BinOp)(t:TypeId)(i:Nat)(a b:AV):M2 P op t (.tmp i) a b=CK P op t a b:=C_ rfl
theorem bD (op:BinOp)(t:TypeId)(k:IntKind)(n:Int)(a b:AV):M2 P op t (.const (.int k n)) a b=CK P op t a b:=C_ rfl
theorem bI (op:BinOp)(t:TypeId)(a b:AV):M2 P op t (.const (.slice none 0 0)) a b=iR P op t a:=C_ rfl
theorem iS (t:TypeId)(n m:Nat)(f:Nat→AV)(b:Bool):iR P .eql t (.sl n m f b)=Qf (IA P t=true) (some (if n=0 then .TAg else .bool false)):=C_ rfl
theorem ii (t:TypeId)(k:IntKind)(x y:Int):CK P .add t (.int k x) (.int k y)=some (.int k (k.wrap (x+y))):=EV rfl _
theorem S9 (t:TypeId)(k:IntKind)(x y:Int):CK P .sub t (.int k x) (.int k y)=some (.int k (k.wrap (x-y))):=EV rfl _
theorem ir (t:TypeId)(k:IntKind)(x y:Int):CK P .mul t (.int k x) (.int k y)=some (.int k (k.wrap (x*y))):=EV rfl _
theorem iv (t:TypeId)(k:IntKind)(x y:Int):CK P .quo t (.int k x) (.int k y)=Qf (y≠0) (some (.int k (k.wrap (x.tdiv y)))):=by simp[CK]
theorem iw (t:TypeId)(k:IntKind)(x y:Int):CK P .rem t (.int k x) (.int k y)=Qf (y≠0) (some (.int k (x.tmod y))):=by simp[CK]
theorem ij (t:TypeId)(k:IntKind)(x y:Int):CK P .eql t (.int k x) (.int k y)=some (.bool (decide (x=y))):=EV rfl _
theorem iu (t:TypeId)(k:IntKind)(x y:Int):CK P .neq t (.int k x) (.int k y)=some (.bool (!decide (x=y))):=EV rfl _
theorem iq (t:TypeId)(k:IntKind)(x y:Int):CK P .lss t (.int k x) (.int k y)=some (.bool (decide (x<y))):=EV rfl _
theorem ip (t:TypeId)(k:IntKind)(x y:Int):CK P .leq t (.int k x) (.int k y)=some (.bool (decide (x≤y))):=EV rfl _
theorem io (t:TypeId)(k:IntKind)(x y:Int):CK P .gtr t (.int k x) (.int k y)=some (.bool (decide (y<x))):=EV rfl _
theorem il (t:TypeId)(k:IntKind)(x y:Int):CK P .geq t (.int k x) (.int k y)=some (.bool (decide (y≤x))):=EV rfl _
theorem bU (t:TypeId)(x y:Bool):CK P .eql t (.bool x) (.bool y)=Qf (Mk P t=true) (some (.bool (x == y))):=C_ rfl
theorem bW (t:TypeId)(x y:Bool):CK P .neq t (.bool x) (.bool y)=Qf (Mk P t=true) (some (.bool (!(x == y)))):=C_ rfl
theorem pc (b:Bool):uV .not (.bool b)=some (.bool !b):=C_ rfl
theorem pb (k:IntKind)(n:Int):uV .neg (.int k n)=some (.int k (k.wrap (0-n))):=C_ rfl
theorem iQ (k:IntKind)(x y:Int):cE (.int k x) (.int k y)=some (.int k (if y<x then y else x)):=EV rfl _
theorem iP (k:IntKind)(x y:Int):cD (.int k x) (.int k y)=some (.int k (if x<y then y else x)):=EV rfl _
end
theorem EW {α:Type}(x:Option α):Qf True x=x:=N_ trivial
theorem rh (k:IntKind)(n:Int):(AV.int k n).one=true:=C_ rfl
theorem N4 (b:Bool):(AV.bool b).one=true:=C_ rfl
theorem W9 (n m:Nat)(f:Nat→AV)(t:Bool):(AV.sl n m f t).one=true:=C_ rfl
theorem ri (i v o:Nat):(AV.ref i v o).one=true:=C_ rfl
theorem YV (i v e o n:Nat):(AV.osl i v e o n).one=true:=C_ rfl
theorem W8 (g:FuncId)(l:List AV):(AV.fn g l).one=true:=C_ rfl
theorem I8 (l:List AV):(AV.agg l).cells=l:=C_ rfl
theorem cZ (k:IntKind)(n:Int):AV.cells (.int k n)=[.int k n]:=C_ rfl
theorem eI (k:IntKind)(n:Int):AV.loose (.int k n)=.int k n:=C_ rfl
theorem Vu (b:Bool):AV.cells (.bool b)=[.bool b]:=C_ rfl
theorem Gl (b:Bool):AV.loose (.bool b)=.bool b:=C_ rfl
theorem ju (n m:Nat)(f:Nat→AV)(t:Bool):AV.cells (.sl n m f t)=[.sl n m f t]:=C_ rfl
theorem N0 (n m:Nat)(f:Nat→AV)(t:Bool):AV.loose (.sl n m f t)=.sl n m f false:=C_ rfl
theorem dc (i v o:Nat):AV.cells (.ref i v o)=[.ref i v o]:=C_ rfl
theorem eJ (i v o:Nat):AV.loose (.ref i v o)=.ref i v o:=C_ rfl
theorem Ot (i v e o n:Nat):AV.cells (.osl i v e o n)=[.osl i v e o n]:=C_ rfl
theorem OM (i v e o n:Nat):AV.loose (.osl i v e o n)=.osl i v e o n:=C_ rfl
theorem jt (g:FuncId)(l:List AV):AV.cells (.fn g l)=[.fn g l]:=C_ rfl
theorem lI (g:FuncId)(l:List AV):AV.loose (.fn g l)=.fn g l:=C_ rfl
theorem cS (k:IntKind)(n:Int):AV.boxed (.int k n)=.int k n:=C_ rfl
theorem Vr (b:Bool):AV.boxed (.bool b)=.bool b:=C_ rfl
theorem cT (i v o:Nat):AV.boxed (.ref i v o)=.ref i v o:=C_ rfl
theorem cU (n m:Nat)(f:Nat→AV):AV.boxed (.sl n m f false)=.sl n m f false:=C_ rfl
theorem cV (n m:Nat)(f:Nat→AV):AV.boxed (.sl n m f true)=.sl n m f (n == 0):=C_ rfl
theorem C4 {P:Program}{fn:Func}{str hcs:List Nat}{r:AV}{s:AS}{t:Nat}(hr:fn.results=#[.tmp t])(h:ZA s.h (s.get t) r):TAC (JK P fn str hcs r) s :=
 ⟨s.get t,by simp[Au,Fz,hr,JL,A8,BO],h⟩
theorem rE {P:Program}{fn:Func}{str hcs:List Nat}{r:AV}{s:AS}{t u:Nat}(hr:fn.results=#[.tmp t,.tmp u])(h:ZA s.h (.tup [s.get t,s.get u]) r):TAC (JK P fn str hcs r) s :=
 ⟨.tup [s.get t,s.get u],by simp[Au,Fz,hr,JL,A8,BO],h⟩
theorem Pe {P:Program}{fn:Func}{str hcs:List Nat}{b:Nat}{r:AV}{H:List AO}{s:AS}{t:Nat}(hr:fn.results=#[.tmp t])(h:s.get t=r)(hH:s.h=H):TAC (MB P fn str hcs b r H) s :=
 ⟨s.get t,by simp[Au,Yu,hr,JL,A8,BO],h,hH⟩
theorem XY {H:List AO}{a b:AV}(h:A_ b)(he:a=b):ZA H a b:=by subst he;exact h.TBI H
theorem Ns {α:Type}{e:α→AV}{d:α}{l:List α}{H:List AO}{id ver n off:Nat}(he:∀a,A_ (e a)) (ho:H[id]?=some (.row ver n (J8 e d l))∨H[id]?=some (.con ver n (J8 e d l))) (hn:l.length≤n) (TCU:off=0) :
  ZA H (.osl id ver 1 off l.length) (QG e d l):=by
 subst TCU;exact Kw ho (by omega) (by omega) fun j _=>by rw[z_];exact(he _).TBI H
theorem Bq {α:Type}{e:α→AV}{d:α}{l:List α}{H:List AO}{a:AV}{id ver n m:Nat}{g:Nat→AV}(he:∀a,A_ (e a)) (ha:a=.osl id ver 1 0 m) (ho:H[id]?=some (.row ver n g)) (hm:m=l.length) (hg:g=J8 e d l) (hn:l.length≤n):ZA H a (QG e d l):=by
 subst ha;subst hm;subst hg;exact Ns he (.inl ho) hn rfl
theorem Wu {H:List AO}{f g:Nat→AV}{t:Bool}:ZA H (.sl 0 0 f t) (.sl 0 0 g false):=by
 intro c v _ _ h;cases h with
 |sl b base _ _ cap _ _ us hS hc hr hn ht=>exact .slz _ _ _ _ (by simp)
 |slz a cap _ _ ht=>exact .slz _ _ _ _ (by simp)
theorem Tt (a:AV):(∀j,j<1→(Xf [a] j).one=true)=(a.one=true):=by
 apply propext;constructor
 ·intro h;exact h 0 (by omega)
 ·intro h j hj
  obtain rfl:j=0:=by omega
  exact h
theorem PQ (l:List Int)(x:Int):XV l.length (J8 I 0 l) 1 (Xf [.int .i64 x])=J8 I 0 (l ++ [x]):=by
 have:=iU I 0 l x;rw[ZCS,ZCS]at this;exact this
theorem TR {c c':Ctx}(hw:c'.w=c.w)(hS:c'.S=c.S)(hγ:c'.γ=c.γ)(hi:∀ id,inf c'.H id=inf c.H id)(hd:∀id:Nat,c'.H[id]?=some AO.dead↔c.H[id]?=some AO.dead)
  (hm:∀ (id:Nat) k g,c.H[id]?=some (AO.map k g)→c'.H[id]?=some (AO.map k g)) {v:Value} {a:AV} (h:Rep c v a):Rep c' v a :=
 h.ext (fun b hb=>by rw[hS];exact hb) (fun b _=>by rw[hw]) (by
  intro id o ho;have key:∀v,inf c.H id=some v→(c'.H[id]?=some .dead∨∃v',Ab.inf c'.H id=some v'∧(v<v'∨(v'=v∧c'.γ id=c.γ id))) :=
   fun v hv=>.inr ⟨v,by rw[hi];exact hv,.inr ⟨rfl,by rw[hγ]⟩⟩
  cases o with
  |D_=>trivial
  |dead=>exact(hd id).2 ho
  |row v _ _=>exact key v (by simp[inf,ho,AO.info])
  |con v _ _=>exact key v (by simp[inf,ho,AO.info])
  |map k g=>exact .inr ⟨⟨k,g,hm id k g ho⟩,by rw[hγ]⟩)
theorem Zm {m:Nat}{s:AS}(id:Nat){ver n:Nat}{f:Nat→AV}(n':Nat)(g:Nat→AV)(ho:s.h[id]?=some (.row ver n f)) (hn':n'≤n) (hfg:∀j,j<n'→f j=g j):Sub m s { s with h:=s.h.set id (.row ver n' g) }:=by
 intro N c a hst;have hH:=hst.heap;rw[←hH]at ho;have hlt:=(S_.1 ho).1;have hat:(c.H.set id (.row ver n' g))[id]?=some (.row ver n' g):=by simp[hlt]
 have TAI:∀i,i≠id→(c.H.set id (AO.row ver n' g))[i]?=c.H[i]?:=fun i hi=>L_ (w_ hi)
 let c':Ctx:=⟨c.w,c.S,c.γ,c.H.set id (.row ver n' g)⟩
 have J_:∀i,inf c'.H i=inf c.H i:=fun i=>by
  by_cases hi:i=id
  ·subst hi;simp[inf,c',hat,ho,AO.info]
  ·simp[inf,c',TAI i hi]
 have TCR:∀i:Nat,c'.H[i]?=some AO.dead↔c.H[i]?=some AO.dead:=fun i=>by
  by_cases hi:i=id
  ·subst hi;simp[c',hat,ho]
  ·simp[c',TAI i hi]
 have TCa:∀ (i:Nat) k q,c.H[i]?=some (AO.map k q)↔c'.H[i]?=some (AO.map k q):=fun i k q=>by
  by_cases hi:i=id
  ·subst hi;simp[c',hat,ho]
  ·simp[c',TAI i hi]
 have TAb:∀ {v a},Rep c v a→Rep c' v a:=fun hv=>TR (c:=c) (c':=c') rfl rfl rfl J_ TCR (fun i k q=>(TCa i k q).1) hv
 have TC1:∀b,Ar c' b→Ar c b:=by
  rintro b ⟨i,o,sz,hoi,TAP,hg⟩;by_cases hi:i=id
  ·subst hi;exact⟨i,_,sz,ho,rfl,hg⟩
  ·exact⟨i,o,sz,by rw[←TAI i hi];exact hoi,TAP,hg⟩
 have J':Ext c c':=by
  refine⟨?_,fun b h=>h,fun b h=>.inl h,fun b h=>.inr (TC1 b h),fun _ _ _=>rfl,N' _,rfl,rfl,rfl⟩;intro i o hoi;have key:∀v,inf c.H i=some v→(c'.H[i]?=some .dead∨∃v',Ab.inf c'.H i=some v'∧(v<v'∨(v'=v∧c'.γ i=c.γ i))) :=
   fun v hv=>.inr ⟨v,by rw[J_];exact hv,.inr ⟨rfl,rfl⟩⟩
  cases o with
  |D_=>trivial
  |dead=>exact(TCR i).2 hoi
  |row v _ _=>exact key v (by simp[inf,hoi,AO.info])
  |con v _ _=>exact key v (by simp[inf,hoi,AO.info])
  |map k q=>exact .inr ⟨⟨k,q,(TCa i k q).1 hoi⟩,rfl⟩
 refine⟨c',rfl,J'.toB m,hst.size,hst.defers,fun i=>TAb (hst.TAQ i),by simp[c',hH],?_⟩;refine⟨?_,?_,?_,?_,hst.H_.bound⟩
 ·intro i v k q hoi
  by_cases hi:i=id
  ·subst hi
   simp only[c']at hoi;rw[hat]at hoi;cases hoi;rcases hst.H_.row i ver n f ho with h | ⟨b,sz,cs,el,h1,h2,h3,h4,h5,h6⟩
   ·exact .inl ⟨h.1,by omega⟩
   ·exact .inr ⟨b,sz,cs,el,h1,h2,h3,by omega,h5,fun j hj=>by rw[←hfg j hj];exact TAb (h6 j (by omega))⟩
  ·simp only[c']at hoi
   rw[TAI i hi]at hoi;rcases hst.H_.row i v k q hoi with h | ⟨b,sz,cs,el,h1,h2,h3,h4,h5,h6⟩
   ·exact .inl h
   ·exact .inr ⟨b,sz,cs,el,h1,h2,h3,h4,h5,fun j hj=>TAb (h6 j hj)⟩
 ·intro i v k q hoi
  by_cases hi:i=id
  ·subst hi;simp only[c']at hoi;rw[hat]at hoi;cases hoi
  ·simp only[c']at hoi
   rw[TAI i hi]at hoi;rcases hst.H_.con i v k q hoi with h | ⟨b,sz,cs,el,fr,h1,h2,h3,h4,h5,h6⟩
   ·exact .inl h
   ·exact .inr ⟨b,sz,cs,el,fr,h1,h2,h3,h4,h5,fun j hj=>TAb (h6 j hj)⟩
 ·intro i k q hoi
  obtain⟨b,sz,es,cl,h1,h2,h3,h4⟩:=hst.H_.map i k q ((TCa i k q).2 hoi);exact⟨b,sz,es,cl,h1,h2,h3,h4.ext fun v a hv=>TAb hv⟩
 ·intro i i' o o' b sz sz' hoi TAn h1 h2 hg hg'
  have key:∀ (i:Nat) o,c'.H[i]?=some o→o.owned=true→∃o2:AO,c.H[i]?=some o2∧o2.owned=true:=by
   intro i o hoi h;by_cases hi:i=id
   ·subst hi;exact⟨_,ho,rfl⟩
   ·exact⟨o,by rw[←TAI i hi];exact hoi,h⟩
  obtain⟨o2,k1,k2⟩:=key i o hoi h1;obtain⟨o3,k3,k4⟩:=key i' o' TAn h2;exact hst.H_.inj _ _ _ _ _ _ _ k1 k3 k2 k4 hg hg'
def okS (n0:Nat)(hid:List Nat)(sl:List AV)(tm:List (Nat×AV)) (h:List AO):AS:=⟨n0,hid,sl,tm,h⟩
def D7 (s:AS):AS:=s
theorem r6 (n0:Nat)(hid:List Nat)(sl:List AV)(tm:List (Nat×AV)) (h:List AO):D7 ⟨n0,hid,sl,tm,h⟩=okS n0 hid sl tm h:=C_ rfl
def J1 (s:AS)(K:AS→Prop):Prop:=K s
@[congr] theorem TDg {s s':AS}{K:AS→Prop}(h:s=s'):J1 s K=J1 s' K:=by rw[h]
theorem Tq (n0:Nat)(hid:List Nat)(sl:List AV)(tm:List (Nat×AV)) (h:List AO) (K:AS→Prop):J1 (okS n0 hid sl tm h) K=K ⟨n0,hid,sl,tm,h⟩:=C_ rfl
section
variable (X:Env) (n:Nat) (k:List Item) (s:AS)
theorem V0 (id:Nat)(ops:List Oper):vc X (n+1) (.code (.region id ops.toArray false) :: k) s=(J1 (D7 s.clr) fun s=>XA X n ⟨ops.toArray,HM X.str id,true,none,0,0⟩ ops k s):=C_ rfl
theorem gU (id:Nat)(ops:List Oper):vc X (n+1) (.code (.region id ops.toArray true) :: k) s =
 (DZ X.str id=true∧J1 (D7 (s.frz (G3 X.str id))) fun s=>J1 (D7 (EL (X.hcs.contains id) ops.toArray s)) fun s'=>XA X n ⟨ops.toArray,HM X.str id,X.hcs.contains id,some s.h.length,0,s.h.length⟩ ops k s'):=C_ rfl
theorem qQ:s.frz []=s:=C_ rfl
theorem kQ (i:Nat)(l:List Nat):s.frz (i :: l)=(kK s (s.get i)).frz l:=C_ rfl
theorem kN (id ver off:Nat):kK s (.ref id ver off)=VJ s id s.h[id]?:=C_ rfl
theorem kM (id ver es off n:Nat):kK s (.osl id ver es off n)=VJ s id s.h[id]?:=C_ rfl
theorem kP (n0:Nat)(hid:List Nat)(sl:List AV)(tm:List (Nat×AV)) (h:List AO) (id ver n:Nat) (f:Nat→AV):VJ ⟨n0,hid,sl,tm,h⟩ id (some (.row ver n f))=⟨n0,hid,sl,tm,h.set id (.con ver n f)⟩:=C_ rfl
theorem kO (n0:Nat)(hid:List Nat)(sl:List AV)(tm:List (Nat×AV)) (h:List AO) (id ver n:Nat) (f:Nat→AV):VJ ⟨n0,hid,sl,tm,h⟩ id (some (.con ver n f))=⟨n0,hid,sl,tm,h⟩:=C_ rfl
theorem VH (id:Nat):DZ [] id=true:=C_ rfl
theorem SX (c:Nat)(l:List Nat)(id:Nat):DZ (c :: l) id=if c/1000000000000=id+1 then false else DZ l id:=C_ rfl
theorem dM (id:Nat):G3 [] id=[]:=C_ rfl
theorem VI (n:Nat)(l:List Nat)(id:Nat):G3 (n :: l) id=if n/10000000=id+1 then n%10000000 :: G3 l id else G3 l id:=C_ rfl
variable (all:Array Oper) (st:Nat→Bool) (hc:Bool) (bs:Option Nat) (i nx:Nat) (os:List Oper) (d:Option Nat) (t:TypeId) (p:String) (af:Array Edge) (g:Option (Nat×Bool))
theorem UY (op:Op)(j:Nat):XA X (n+1) ⟨all,st,hc,bs,i,nx⟩ (⟨d,op,t,p,af,some (j,true)⟩ :: os) k s =
 pZ (Cw all j) fun e=>ow (s.get e) (J1 (D7 (s.fix e (.bool true))) fun s=>Qr X n ⟨all,st,hc,bs,i,nx⟩ ⟨d,op,t,p,af,some (j,true)⟩ os k s)
  (J1 (D7 ((s.fix e (.bool false)).E' d XZ)) fun s=>XA X n (Md.next ⟨all,st,hc,bs,i,nx⟩ ⟨d,op,t,p,af,some (j,true)⟩) os k s)
  (J1 (D7 (s.E' d XZ)) fun s=>XA X n (Md.next ⟨all,st,hc,bs,i,nx⟩ ⟨d,op,t,p,af,some (j,true)⟩) os k s):=gv X n k s all st hc bs i nx os d op t p af j
theorem UX (op:Op)(j:Nat):XA X (n+1) ⟨all,st,hc,bs,i,nx⟩ (⟨d,op,t,p,af,some (j,false)⟩ :: os) k s =
 pZ (Cw all j) fun e=>ow (s.get e) (J1 (D7 ((s.fix e (.bool true)).E' d XZ)) fun s=>XA X n (Md.next ⟨all,st,hc,bs,i,nx⟩ ⟨d,op,t,p,af,some (j,false)⟩) os k s)
  (J1 (D7 (s.fix e (.bool false))) fun s=>Qr X n ⟨all,st,hc,bs,i,nx⟩ ⟨d,op,t,p,af,some (j,false)⟩ os k s)
  (J1 (D7 (s.E' d XZ)) fun s=>XA X n (Md.next ⟨all,st,hc,bs,i,nx⟩ ⟨d,op,t,p,af,some (j,false)⟩) os k s):=gu X n k s all st hc bs i nx os d op t p af j
theorem UW (M:Md)(f:Operand)(args:Array Operand)(ts:Array TypeId) :
 Qr X (n+1) M ⟨d,.call { callee:=.value f,args:=args,argTypes:=ts },t,p,af,g⟩ os k s =
  tj X M ⟨d,.call { callee:=.value f,args:=args,argTypes:=ts },t,p,af,g⟩
   (fun s'=>J1 (D7 s') fun s'=>XA X n (M.next ⟨d,.call { callee:=.value f,args:=args,argTypes:=ts },t,p,af,g⟩) os k s') .mk (s.ev f) (args.toList.map s.ev) s:=C_ rfl
theorem gX:vc X 0 k s=bm X k .mk s:=C_ (by unfold vc;rfl)
theorem oT:vc X (n+1) (.code .ret :: k) s=xU X .mk s:=C_ rfl
theorem oS:vc X (n+1) [] s=zz X .mk s:=C_ rfl
theorem gV (b:Code):vc X (n+1) (.code (.loop b) :: k) s=bm X (.code (.loop b) :: k) .mk s:=C_ rfl
theorem UZ (b:Code):vc X (n+1) (.inLoop b :: k) s=bm X (.inLoop b :: k) .mk s:=C_ rfl
theorem gR (x y z:Operand):Qr X (n+1) ⟨all,st,hc,bs,i,nx⟩ ⟨d,.pick x y z,t,p,af,g⟩ os k s =
  wO (s.ev x) (J1 (D7 (s.E' d (s.ev y))) fun s=>XA X n ⟨all,st,hc,bs,i+1,nx⟩ os k s) (J1 (D7 (s.E' d (s.ev z))) fun s=>XA X n ⟨all,st,hc,bs,i+1,nx⟩ os k s):=by
 rw[mg];rfl
theorem S8 (x:Operand)(j:Nat):Qr X (n+1) ⟨all,st,hc,bs,i,nx⟩ ⟨d,.extract x j,t,p,af,g⟩ os k s=oz (s.ev x) j fun v=>(J1 (D7 (s.E' d v)) fun s=>XA X n ⟨all,st,hc,bs,i+1,nx⟩ os k s):=by
 rw[Tw];rfl
theorem gQ (x:Operand):Qr X (n+1) ⟨all,st,hc,bs,i,nx⟩ ⟨d,.move x,t,p,af,g⟩ os k s=(J1 (D7 (s.E' d (s.ev x))) fun s=>XA X n ⟨all,st,hc,bs,i+1,nx⟩ os k s):=by
 first | (rw[aa];rfl) |rw[aa]
theorem UU (x:Operand):Qr X (n+1) ⟨all,st,hc,bs,i,nx⟩ ⟨d,.assign x,t,p,af,g⟩ os k s=(J1 (D7 (s.E' d (s.ev x))) fun s=>XA X n ⟨all,st,hc,bs,i+1,nx⟩ os k s):=by
 first | (rw[OW];rfl) |rw[OW]
theorem gN (u:TypeId)(x:Operand):Qr X (n+1) ⟨all,st,hc,bs,i,nx⟩ ⟨d,.load u x,t,p,af,g⟩ os k s=Q2 (Qy X.P (st i) u (s.ev x) s.h) fun v=>(J1 (D7 (s.E' d v)) fun s=>XA X n ⟨all,st,hc,bs,i+1,nx⟩ os k s):=by
 first | (rw[YY];rfl) |rw[YY]
theorem oN (o:BinOp)(u u':TypeId)(x y:Operand):Qr X (n+1) ⟨all,st,hc,bs,i,nx⟩ ⟨d,.binOp o u x y u',t,p,af,g⟩ os k s=Q2 (M2 X.P o u y (s.ev x) (s.ev y)) fun v=>(J1 (D7 (s.E' d v)) fun s=>XA X n ⟨all,st,hc,bs,i+1,nx⟩ os k s):=by
 first | (rw[mb];rfl) |rw[mb]
theorem uM (o:UnOp)(u:TypeId)(x:Operand):Qr X (n+1) ⟨all,st,hc,bs,i,nx⟩ ⟨d,.unOp o u x,t,p,af,g⟩ os k s=Q2 (uV o (s.ev x)) fun v=>(J1 (D7 (s.E' d v)) fun s=>XA X n ⟨all,st,hc,bs,i+1,nx⟩ os k s):=by
 first | (rw[tX];rfl) |rw[tX]
theorem gL (u u':TypeId)(x:Operand):Qr X (n+1) ⟨all,st,hc,bs,i,nx⟩ ⟨d,.convert u u' x,t,p,af,g⟩ os k s=Q2 (Oh X.P u u' (s.ev x)) fun v=>(J1 (D7 (s.E' d v)) fun s=>XA X n ⟨all,st,hc,bs,i+1,nx⟩ os k s):=by
 first | (rw[YW];rfl) |rw[YW]
theorem NL (u:TypeId)(x y:Operand):Qr X (n+1) ⟨all,st,hc,bs,i,nx⟩ ⟨d,.indexAddr u x y,t,p,af,g⟩ os k s=Q2 (DL X.P u (s.ev x) (s.ev y)) fun v=>(J1 (D7 (s.E' d v)) fun s=>XA X n ⟨all,st,hc,bs,i+1,nx⟩ os k s):=by
 first | (rw[Hm];rfl) |rw[Hm]
theorem NK (u:TypeId)(x:Operand)(j:Nat):Qr X (n+1) ⟨all,st,hc,bs,i,nx⟩ ⟨d,.fieldAddr u x j,t,p,af,g⟩ os k s=Q2 (CM X.P u (s.ev x) j) fun v=>(J1 (D7 (s.E' d v)) fun s=>XA X n ⟨all,st,hc,bs,i+1,nx⟩ os k s):=by
 first | (rw[Hl];rfl) |rw[Hl]
theorem b8 (u:TypeId)(x:Operand)(j:Nat):Qr X (n+1) ⟨all,st,hc,bs,i,nx⟩ ⟨d,.field u x j,t,p,af,g⟩ os k s=Q2 (I2 X.P u (s.ev x) j) fun v=>(J1 (D7 (s.E' d v)) fun s=>XA X n ⟨all,st,hc,bs,i+1,nx⟩ os k s):=by
 first | (rw[Tx];rfl) |rw[Tx]
theorem aZ (u:TypeId)(ps:Array (Nat×Operand)):Qr X (n+1) ⟨all,st,hc,bs,i,nx⟩ ⟨d,.build u ps,t,p,af,g⟩ os k s=Q2 (Gc X.P u (ps.toList.map fun q=>(q.1,s.ev q.2))) fun v=>(J1 (D7 (s.E' d v)) fun s=>XA X n ⟨all,st,hc,bs,i+1,nx⟩ os k s):=by
 first | (rw[Tv];rfl) |rw[Tv]
theorem LZ (u:TypeId)(m:Nat)(ps:Array (Nat×Operand)):Qr X (n+1) ⟨all,st,hc,bs,i,nx⟩ ⟨d,.buildSlice u m ps,t,p,af,g⟩ os k s=yl (st i) X.P u m (ps.toList.map fun q=>(q.1,s.ev q.2)) s.h fun v h'=>(J1 (D7 (({ s with h:=h' }:AS).E' d v)) fun s=>XA X n ⟨all,st,hc,bs,i+1,nx⟩ os k s):=by
 first | (rw[G4];rfl) |rw[G4]
theorem be (u:TypeId)(x y:Operand):Qr X (n+1) ⟨all,st,hc,bs,i,nx⟩ ⟨d,.store u x y,t,p,af,g⟩ os k s=Q2 (ZC X.P (st i) u (s.ev x) (s.ev y) s.h) fun h'=>(J1 (D7 (({ s with h:=h' }:AS).E' d XZ)) fun s=>XA X n ⟨all,st,hc,bs,i+1,nx⟩ os k s):=by
 first | (rw[Tz];rfl) |rw[Tz]
theorem PC (x:Operand):Qr X (n+1) ⟨all,st,hc,bs,i,nx⟩ ⟨d,.nilCheck x,t,p,af,g⟩ os k s=((s.ev x).TAl=true∧(J1 (D7 (s.E' d (s.ev x))) fun s=>XA X n ⟨all,st,hc,bs,i+1,nx⟩ os k s)):=by
 first | (rw[IZ];rfl) |rw[IZ]
theorem b9 (u:TypeId)(x:Operand)(lo hi:Option Operand):Qr X (n+1) ⟨all,st,hc,bs,i,nx⟩ ⟨d,.slice u x lo hi none,t,p,af,g⟩ os k s =
  Q2 (EF X.P u (s.ev x) (lo.map s.ev) (hi.map s.ev) none) fun v=>(J1 (D7 (s.E' d v)) fun s=>XA X n ⟨all,st,hc,bs,i+1,nx⟩ os k s):=by
 first | (rw[Ty];rfl) |rw[Ty]
theorem UV (u:TypeId)(x:Operand)(lo:Option Operand)(hi mx:Operand):Qr X (n+1) ⟨all,st,hc,bs,i,nx⟩ ⟨d,.slice u x lo (some hi) (some mx),t,p,af,g⟩ os k s =
  Q2 (EF X.P u (s.ev x) (lo.map s.ev) (some (s.ev hi)) (some (s.ev mx))) fun v=>(J1 (D7 (s.E' d v)) fun s=>XA X n ⟨all,st,hc,bs,i+1,nx⟩ os k s):=by
 first | (rw[OX];rfl) |rw[OX]
theorem PA (f:FuncId)(G_:Array Operand):Qr X (n+1) ⟨all,st,hc,bs,i,nx⟩ ⟨d,.makeFunc (.func f) #[] G_,t,p,af,g⟩ os k s=(J1 (D7 (s.E' d (.fn f (G_.toList.map s.ev)))) fun s=>XA X n ⟨all,st,hc,bs,i+1,nx⟩ os k s):=by
 first | (rw[IX];rfl) |rw[IX]
theorem PB (f:FuncId)(r:Operand):Qr X (n+1) ⟨all,st,hc,bs,i,nx⟩ ⟨d,.makeFunc (.func f) #[r] #[],t,p,af,g⟩ os k s=(J1 (D7 (s.E' d (.mfn f (s.ev r)))) fun s=>XA X n ⟨all,st,hc,bs,i+1,nx⟩ os k s):=by
 first | (rw[IY];rfl) |rw[IY]
theorem oP (x:Operand)(u:TypeId):Qr X (n+1) ⟨all,st,hc,bs,i,nx⟩ ⟨d,.call { callee:=.builtin .len,args:=#[x],argTypes:=#[u] },t,p,af,g⟩ os k s =
  Q2 (NS X.P u (s.ev x)) fun v=>(J1 (D7 (s.E' d v)) fun s=>XA X n ⟨all,st,hc,bs,i+1,nx⟩ os k s):=by
 first | (rw[md];rfl) |rw[md]
theorem oR (x y:Operand)(us:Array TypeId):Qr X (n+1) ⟨all,st,hc,bs,i,nx⟩ ⟨d,.call { callee:=.builtin .min,args:=#[x,y],argTypes:=us },t,p,af,g⟩ os k s =
  Q2 (cE (s.ev x) (s.ev y)) fun v=>(J1 (D7 (s.E' d v)) fun s=>XA X n ⟨all,st,hc,bs,i+1,nx⟩ os k s):=by
 first | (rw[mf];rfl) |rw[mf]
theorem oQ (x y:Operand)(us:Array TypeId):Qr X (n+1) ⟨all,st,hc,bs,i,nx⟩ ⟨d,.call { callee:=.builtin .max,args:=#[x,y],argTypes:=us },t,p,af,g⟩ os k s =
  Q2 (cD (s.ev x) (s.ev y)) fun v=>(J1 (D7 (s.E' d v)) fun s=>XA X n ⟨all,st,hc,bs,i+1,nx⟩ os k s):=by
 first | (rw[me];rfl) |rw[me]
theorem UT (x y:Operand)(u:TypeId):Qr X (n+1) ⟨all,st,hc,bs,i,nx⟩ ⟨d,.call { callee:=.builtin .append,args:=#[x,y],argTypes:=#[u,u] },t,p,af,g⟩ os k s =
  Q2 (J5 X.P u (s.ev x) (s.ev y) s.h) fun r=>(J1 (D7 (({ s with h:=r.2 }:AS).E' d r.1)) fun s=>XA X n ⟨all,st,hc,bs,i+1,nx⟩ os k s):=by
 first | (rw[OV];rfl) |rw[OV]
theorem gM (x y:Operand)(u u':TypeId):Qr X (n+1) ⟨all,st,hc,bs,i,nx⟩ ⟨d,.call { callee:=.builtin .copy,args:=#[x,y],argTypes:=#[u,u'] },t,p,af,g⟩ os k s =
  Q2 (FX X.P u (s.ev x) (s.ev y) s.h) fun r=>(J1 (D7 (({ s with h:=r.2 }:AS).E' d r.1)) fun s=>XA X n ⟨all,st,hc,bs,i+1,nx⟩ os k s):=by
 first | (rw[YX];rfl) |rw[YX]
theorem EB (x y:Operand)(u u':TypeId)(hne:u≠u'):Qr X (n+1) ⟨all,st,hc,bs,i,nx⟩ ⟨d,.call { callee:=.builtin .append,args:=#[x,y],argTypes:=#[u,u'] },t,p,af,g⟩ os k s =
  Q2 (K8 X.P u u' (s.ev x) (s.ev y) s.h) fun r=>(J1 (D7 (({ s with h:=r.2 }:AS).E' d r.1)) fun s=>XA X n ⟨all,st,hc,bs,i+1,nx⟩ os k s):=by
 first | (rw[N5 (hne:=hne)];rfl) |rw[N5 (hne:=hne)]
theorem aY (u:TypeId):Qr X (n+1) ⟨all,st,hc,none,i,nx⟩ ⟨d,.alloc u,t,p,af,g⟩ os k s =
  Q2 (Bd X.P none u s.h) fun r=>(J1 (D7 (({ s with h:=r.2 }:AS).E' d r.1)) fun s=>XA X n ⟨all,st,hc,none,i+1,nx⟩ os k s):=by
 first | (rw[Tu];rfl) |rw[Tu]
theorem oO (u:TypeId)(x:Operand):Qr X (n+1) ⟨all,st,hc,none,i,nx⟩ ⟨d,.box u x,t,p,af,g⟩ os k s =
  Q2 (NO none (s.ev x) s.h) fun r=>(J1 (D7 (({ s with h:=r.2 }:AS).E' d r.1)) fun s=>XA X n ⟨all,st,hc,none,i+1,nx⟩ os k s):=by
 first | (rw[mc];rfl) |rw[mc]
theorem gO (u:TypeId)(x y:Operand):Qr X (n+1) ⟨all,st,hc,none,i,nx⟩ ⟨d,.makeSlice u x y,t,p,af,g⟩ os k s =
  Q2 (Ep X.P none u (s.ev x) (s.ev y) s.h) fun r=>(J1 (D7 (({ s with h:=r.2 }:AS).E' d r.1)) fun s=>XA X n ⟨all,st,hc,none,i+1,nx⟩ os k s):=by
 first | (rw[YZ];rfl) |rw[YZ]
variable (b:Nat)
theorem US (u:TypeId):Qr X (n+1) ⟨all,st,hc,some b,i,nx⟩ ⟨d,.alloc u,t,p,af,g⟩ os k s =
  (s.h[nx]?=some .D_∧Q2 (Bd X.P (some nx) u s.h) fun r=>(J1 (D7 (({ s with h:=r.2 }:AS).E' d r.1)) fun s=>XA X n ⟨all,st,hc,some b,i+1,nx+1⟩ os k s)):=by
 first | (rw[OU];rfl) |rw[OU]
end
theorem wL (l:List AV)(j:Nat):Xf l j=l.getD j .any:=C_ rfl
theorem fh (a:AV):(∀j,j<1→(([a]:List AV).getD j .any).one=true)=(a.one=true):=Tt a
theorem ou (a:AV):KY [a]=fun _=>a:=C_ rfl
theorem XI {X:Env}(n:Nat){k:List Item}{s:AS}(h:J1 (D7 s) fun s=>vc X n k s):Run X k s:=nO n h
end
end Go.Ab
