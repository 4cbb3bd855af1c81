/- A layer of abstract values and heaps over the model; what is proved here is that its steps and contracts are sound, for every program. -/
import Derived.Test.YtefjhgcndhepeaaGreatAb2
set_option linter.unusedSimpArgs false
set_option linter.unusedVariables false
namespace Go.Ab
open Go Go.RowKit
noncomputable section
def QS (P:Program) (fn:Func) (str hcs:List Nat) (r:AV):Env:=⟨P,fn,str,hcs,0,none,[],none,fun v H=>JH H v r⟩
@[simp] theorem resX_P (P:Program) (fn:Func) (str hcs:List Nat) (r:AV) (s:AS):UM (QS P fn str hcs r) s=KQ P fn s:=rfl
def AS.start (n0:Nat) (hid:List Nat) (args:List AV) (H:List AO):AS:=⟨n0,hid,args ++ List.replicate (n0 - args.length) .any,[],H⟩
theorem jI {N n0:Nat} {hid:List Nat} {args:List AV} {c:Ctx} {vs:Array Value} (hr:HRel c) (hv:RepL c vs args) (hlen:args.length≤N) :
  St N c { tmps:=vs ++ Array.replicate (N - vs.size) undef,defers:=[] } (AS.start n0 hid args c.H):=by
 refine ⟨by simp; have:=hv.1; omega,rfl,fun i=>?_,rfl,hr⟩
 unfold AS.get AS.start
 simp only
 split
 ·by_cases hi:i<args.length
  ·have e1:(args ++ List.replicate (n0 - args.length) AV.any).getD i .any=args.getD i .any:=by
    simp [List.getD_eq_getElem?_getD,List.getElem?_append_left hi]
   have e2:(vs ++ Array.replicate (N - vs.size) undef).getD i undef=vs.getD i undef:=by
    simp [Array.getD_eq_getD_getElem?,Array.getElem?_append_left (show i<vs.size by rw [hv.1]; exact hi)]
   rw [e1,e2]; exact hv.2 i hi
  ·have e1:(args ++ List.replicate (n0 - args.length) AV.any).getD i .any=.any:=by
    rw [List.getD_eq_getElem?_getD,List.getElem?_append_right (by omega),List.getElem?_replicate]
    split <;> rfl
   rw [e1]; exact .any _
 ·exact .any _
theorem Eg {X:Env} {f:FuncId} {body:Code} (hf:X.P.funcs[f]?=some X.fn) (hb:X.fn.body=some body) (hm:X.P.follows .mixedOrders=true) (hok:Qp X.fn.ntmps X.str X.hcs body=true) (hn:X.rnd=none)
  {c:Ctx} {vs:Array Value} {args:List AV} (hr:HRel c) (hv:RepL c vs args) (hlen:args.length≤X.fn.ntmps) {n0:Nat} {hid:List Nat} (h:Run X [.code body] (AS.start n0 hid args c.H)) (htok:∀ p∈X.tok,TokOk c p∧p.ce.H.length≤X.base) (hout:∀ l r r1,X.out=some (l,r,r1)→Kept c l (.loop r))
  {R:Ending→World→Prop} (hR:∀ v r c',Rep c' v r→HRel c'→Te X c c'→X.Q r c'.H→R (.returned v) c'.w):Calls X.P f vs c.w R:=by
 intro cs
 let b:Frame:={ (default:Frame) with fn:=f,kind:=.normal,roundOf:=none }
 have henter:Frame.enter X.P f vs .normal=b.atR { ({ tmps:=vs ++ Array.replicate (X.fn.ntmps - vs.size) undef,defers:=[] }:Act) with defers:=[] } [.code body]:=by
  simp [Frame.enter,Frame.atR,hf,hb,b]
 obtain ⟨v,fr,r,c',h1,h2,h4,h5,h6,h6',h7⟩:=h hm (by intro i hi; simp at hi; subst hi; exact hok) (by rw [hn]; simp) c c _ [] (jI hr hv hlen) ⟨(Ext.refl c).toB _,htok,fun l r e=>(by rw [hn] at e; cases e),trivial,fun l r r1 e _=>hout l r r1 e⟩ b cs hf rfl (by rw [hn]; rfl)
 rw [← henter] at h1
 unfold kP at h2
 rw [hn] at h2
 exact ⟨.returned v,c'.w,fr,hR v r c' h4 h5 h6 h7,h1,h2.1,h2.2⟩
theorem Ax {X:Env} {f:FuncId} {body:Code} (hf:X.P.funcs[f]?=some X.fn) (hb:X.fn.body=some body) (hm:X.P.follows .mixedOrders=true) (hok:Qp X.fn.ntmps X.str X.hcs body=true) (hn:X.rnd=none)
  {c:Ctx} {vs:Array Value} {args:List AV} (hr:HRel c) (hv:RepL c vs args) (hlen:args.length≤X.fn.ntmps) {n0:Nat} {hid:List Nat} (h:Run X [.code body] (AS.start n0 hid args c.H)) (htok:∀ p∈X.tok,TokOk c p∧p.ce.H.length≤X.base)
  {R:Ending→World→Prop} (hR:∀ v r c',Rep c' v r→HRel c'→ExtB X.base c c'→X.Q r c'.H→R (.returned v) c'.w) (ho:X.out=none:=by rfl):Calls X.P f vs c.w R :=
 Eg hf hb hm hok hn hr hv hlen h htok (fun l r r1 e=>by rw [ho] at e; cases e) fun v r c' h1 h2 h3 h4=>hR v r c' h1 h2 (by rw [F6 ho] at h3; exact h3) h4
theorem PureCall.intro {P:Program} {f:FuncId} {fn:Func} {body:Code} (he:ZH P f) (hf:P.funcs[f]?=some fn) (hb:fn.body=some body) (hm:P.follows .mixedOrders=true) {args:List AV} {r:AV}
  (n0:Nat) (hid str hcs:List Nat) (hok:Qp fn.ntmps str hcs body=true) (hlen:args.length≤fn.ntmps) (h:Run (QS P fn str hcs r) [.code body] (AS.start n0 hid args [])):PureCall P f args r:=by
 refine ⟨he,fun w S vs hS hv=>?_⟩
 refine Ax (X:=QS P fn str hcs r) (c:=.bare w S) hf hb hm hok rfl (aN hS) hv hlen h (fun p hp=>absurd hp (List.not_mem_nil)) ?_
 intro v r' c' h1 h2 h3 h4
 refine ⟨v,LZ c',rfl,h4 c' v rfl h2 h1,fun b hb=>hb.elim (h2.bound b) h2.ownLt,?_⟩
 exact ⟨fun id o ho=>by simp [Ctx.bare] at ho,fun b hb=>.inl (h3.smono b hb),fun b hb=>by
   rcases hb with hb | hb
   ·exact h3.snew b hb
   ·exact (h3.onew b hb).imp id id |>.elim (fun h=>.inr (.inl h)) (fun h=>absurd h AB),
  fun b hb=>absurd hb AB,fun b hb hn=>h3.same b hb hn,h3.size,h3.os,h3.tape,h3.output⟩
def Gn (P:Program) (fn:Func) (str hcs:List Nat) (base:Nat) (r:AV) (H':List AO):Env:=⟨P,fn,str,hcs,base,none,[],none,fun v H=>v=r∧H=H'⟩
@[simp] theorem resX_H (P:Program) (fn:Func) (str hcs:List Nat) (b:Nat) (r:AV) (H:List AO) (s:AS):UM (Gn P fn str hcs b r H) s=KQ P fn s:=rfl
theorem HCall.intro {P:Program} {f:FuncId} {fn:Func} {body:Code} (he:ZH P f) (hf:P.funcs[f]?=some fn) (hb:fn.body=some body) (hm:P.follows .mixedOrders=true) {args:List AV} {H H':List AO} {r:AV}
  (n0:Nat) (hid str hcs:List Nat) (hok:Qp fn.ntmps str hcs body=true) (hlen:args.length≤fn.ntmps) (h:Run (Gn P fn str hcs H.length r H') [.code body] (AS.start n0 hid args H)):HCall P f args H r H':=by
 refine ⟨he,?_⟩
 rintro c vs rfl hr hv
 refine Ax (X:=Gn P fn str hcs c.H.length r H') hf hb hm hok rfl hr hv hlen h (fun p hp=>absurd hp (List.not_mem_nil)) ?_
 rintro v r' ⟨w',S',γ',H''⟩ h1 h2 h3 ⟨rfl,rfl⟩
 exact ⟨v,S',γ',rfl,h1,h2,h3.toExt (Nat.le_refl _)⟩
def Xf:List AV→List AV→Prop
 | _,[]=>True
 | a :: l,b :: l'=>(b=.any∨a=b)∧Xf l l'
 | [],b :: l'=>b=.any∧Xf [] l'
def Xm (tm:List (Nat×AV)):List (Nat×AV)→Prop
 | []=>True
 | (i,v) :: l=>(v=.any∨Xq tm i=v)∧Xm tm l
theorem FZ:∀ {l l':List AV},Xf l l'→∀ i,l'.getD i .any=.any∨l.getD i .any=l'.getD i .any
 | l,[],_,i=>.inl (by simp)
 | a :: l,b :: l',h,0=>by simpa using h.1
 | a :: l,b :: l',h,i+1=>by simpa using FZ h.2 i
 | [],b :: l',h,0=>.inl (by simpa using h.1)
 | [],b :: l',h,i+1=>by simpa using FZ h.2 i
theorem LA {tm:List (Nat×AV)}:∀ {l:List (Nat×AV)},Xm tm l→∀ i,Xq l i=.any∨Xq tm i=Xq l i
 | [],_,i=>.inl rfl
 | (j,v) :: l,h,i=>by
  simp only [Xq]
  by_cases hi:i=j
  ·subst hi; simpa using h.1
  ·simp only [hi,if_false]; exact LA h.2 i
theorem Xg {m:Nat} {s s':AS} (h1:s'.n0=s.n0) (h3:Xf s.sl s'.sl) (h4:Xm s.tm s'.tm) (h5:s.h=s'.h):Sub m s s':=by
 intro N c a hst
 refine ⟨c,rfl,(Ext.refl c).toB m,hst.size,hst.defers,fun i=>?_,by rw [← h5]; exact hst.heap,hst.hrel⟩
 have:=hst.slots i
 unfold AS.get at this ⊢
 rw [h1]
 split
 ·rename_i hi
  simp only [hi,if_true] at this
  rcases FZ h3 i with e | e
  ·rw [e]; exact .any _
  ·rw [← e]; exact this
 ·rename_i hi
  simp only [hi,if_false] at this
  rcases LA h4 i with e | e
  ·rw [e]; exact .any _
  ·rw [← e]; exact this
def Ko (m:Nat) (a:AV):Prop:=∀ (c:Ctx) v,Rep c v a→Rep ⟨c.w,c.S,c.γ,c.H.take m⟩ v a
theorem X7 {m:Nat} {a:AV} (h:Settled a):Ko m a:=fun c v hv=>Dt (h c v hv) _ _
theorem FA {H:List AO} {m id:Nat} (h:id<m):inf (H.take m) id=inf H id:=by simp [inf,List.getElem?_take,h]
theorem F0 {H:List AO} {m id ver:Nat} (h:id<m) (hs:stale H id ver):stale (H.take m) id ver:=by
 rcases hs with ⟨v,hi,hlt⟩ | hd
 ·exact .inl ⟨v,by rw [FA h]; exact hi,hlt⟩
 ·exact .inr (by simp [h,hd])
theorem HR {m id ver es off n:Nat} (h:id<m):Ko m (.osl id ver es off n):=fun c v hv=>by
 cases hv with
 | osl _ _ _ _ _ cap b sz hi hg hn hcap hmx=>exact .osl _ _ _ _ _ _ b sz (by rw [← FA h] at hi; exact hi) hg hn hcap hmx
 | oslz _ _ _ _ a hi=>exact .oslz _ _ _ _ _ (by rw [← FA h] at hi; exact hi)
 | oslOld _ _ _ _ _ a cap hn hs=>exact .oslOld _ _ _ _ _ _ _ hn (F0 h hs)
 | oslzOld _ _ _ _ a hs=>exact .oslzOld _ _ _ _ _ (F0 h hs)
theorem lC {m id ver off:Nat} (h:id<m):Ko m (.ref id ver off):=fun c v hv=>by
 cases hv with
 | ref _ _ _ b sz hi hg=>exact .ref _ _ _ b sz (by rw [← FA h] at hi; exact hi) hg
 | refOld _ _ _ a hs=>exact .refOld _ _ _ _ (F0 h hs)
theorem lz {m:Nat} {l:List AV} (hl:∀ a∈l,Ko m a):Ko m (.agg l):=fun c v hv=>by
 cases hv with
 | agg vs _ hs hr=>exact .agg vs l hs fun j hj=>hl _ (by rw [List.getD_eq_getElem?_getD,List.getElem?_eq_getElem hj]; exact List.getElem_mem _) c _ (hr j hj)
def XT (m:Nat):AO→Prop
 | .row _ n f=>∀ j,j<n→Ko m (f j)
 | .con _ n f=>∀ j,j<n→Ko m (f j)
 | .map _ g=>∀ n a,g n=some a→Ko m a
 | _=>True
theorem XD {b m:Nat} {s s':AS} (hbm:b≤m) (h1:s'.n0=s.n0) (h3:Xf s.sl s'.sl) (h4:Xm s.tm s'.tm) (h5:s.h.take m=s'.h)
  (h6:∀ a∈s'.sl,Ko m a) (h7:∀ p∈s'.tm,Ko m p.2) (h8:∀ o∈s'.h,XT m o):Sub b s s':=by
 intro N c a hst
 have hH:c.H=s.h:=hst.heap
 have hget:∀ (i:Nat) (o:AO),(c.H.take m)[i]?=some o→c.H[i]?=some o∧i<m:=by
  intro i o ho
  rw [List.getElem?_take] at ho
  split at ho
  ·exact ⟨ho,by assumption⟩
  ·cases ho
 have hmem:∀ (i:Nat) (o:AO),(c.H.take m)[i]?=some o→XT m o:=fun i o ho=>h8 o (by rw [← h5,← hH]; exact List.mem_of_getElem? ho)
 refine ⟨⟨c.w,c.S,c.γ,c.H.take m⟩,rfl,?_,hst.size,hst.defers,fun i=>?_,by rw [← h5,hH],?_⟩
 ·refine ⟨?_,fun _ h=>h,fun _ h=>.inl h,?_,fun _ _ _=>rfl,Nat.le_refl _,rfl,rfl,rfl⟩
  ·intro id o hlt ho
   have h0:(c.H.take m)[id]?=some o:=by rw [List.getElem?_take,if_pos (by omega)]; exact ho
   cases o with
   | unborn=>trivial
   | dead=>exact h0
   | row v _ _=>exact .inr ⟨v,by simp [inf,h0,AO.info],.inr ⟨rfl,rfl⟩⟩
   | con v _ _=>exact .inr ⟨v,by simp [inf,h0,AO.info],.inr ⟨rfl,rfl⟩⟩
   | map k g=>exact .inr ⟨⟨k,g,h0⟩,rfl⟩
  ·rintro x ⟨id,o,sz,ho,hown,hg⟩
   exact .inr ⟨id,o,sz,(hget id o ho).1,hown,hg⟩
 ·have:=hst.slots i
  unfold AS.get at this ⊢
  rw [h1]
  split
  ·rename_i hi
   simp only [hi,if_true] at this
   have hb:Ko m (s'.sl.getD i .any):=by
    rw [List.getD_eq_getElem?_getD]
    cases hx:s'.sl[i]? with
    | none=>exact fun _ v _=>.any v
    | some x=>exact h6 _ (List.mem_of_getElem? hx)
   rcases FZ h3 i with e | e
   ·rw [e]; exact .any _
   ·rw [e] at this; exact hb c _ this
  ·rename_i hi
   simp only [hi,if_false] at this
   have hb:Ko m (Xq s'.tm i):=by
    have:∀ l:List (Nat×AV),(∀ p∈l,Ko m p.2)→Ko m (Xq l i):=by
     intro l
     induction l with
     | nil=>exact fun _ _ v _=>.any v
     | cons x l ih =>
      intro hl
      obtain ⟨j,v⟩:=x
      simp only [Xq]
      split
      ·exact hl (j,v) (by simp)
      ·exact ih fun p hp=>hl p (by simp [hp])
    exact this _ h7
   rcases LA h4 i with e | e
   ·rw [e]; exact .any _
   ·rw [e] at this; exact hb c _ this
 ·refine ⟨?_,?_,?_,?_,hst.hrel.bound⟩
  ·intro id v n f ho
   have hb:=hmem _ _ ho
   rcases hst.hrel.row id v n f (hget _ _ ho).1 with h | ⟨b,sz,cs,el,g1,g2,g3,g4,g5,g6⟩
   ·exact .inl h
   ·exact .inr ⟨b,sz,cs,el,g1,g2,g3,g4,g5,fun j hj=>hb j hj c _ (g6 j hj)⟩
  ·intro id v n f ho
   have hb:=hmem _ _ ho
   rcases hst.hrel.con id v n f (hget _ _ ho).1 with h | ⟨b,sz,cs,el,fr,g1,g2,g3,g4,g5,g6⟩
   ·exact .inl h
   ·exact .inr ⟨b,sz,cs,el,fr,g1,g2,g3,g4,g5,fun j hj=>hb j hj c _ (g6 j hj)⟩
  ·intro id k g ho
   have hb:=hmem _ _ ho
   obtain ⟨b,sz,es,cl,g1,g2,g3,g4⟩:=hst.hrel.map id k g (hget _ _ ho).1
   exact ⟨b,sz,es,cl,g1,g2,g3,g4.keys,g4.uniq,fun n a hn=>let ⟨e,he,hk,hr⟩:=g4.hit n a hn; ⟨e,he,hk,hb n a hn c _ hr⟩,g4.miss⟩
  ·intro i i' o o' b sz sz' ho ho' g1 g2 hg hg'
   exact hst.hrel.inj _ _ _ _ _ _ _ (hget _ _ ho).1 (hget _ _ ho').1 g1 g2 hg hg'
theorem Xd {X:Env} {ι:Type} {body:Code} {k:List Item} {s:AS} (st:ι→AS) (inv:ι→Prop) (μ:ι→Nat) (i0:ι) (h0:inv i0) (hs:Sub X.base s (st i0))
  (round:∀ i,inv i→(∀ j s',inv j→μ j<μ i→Sub X.base s' (st j)→Run X (.inLoop body :: k) s')→Run X (.code body :: .inLoop body :: k) (st i)):Run X (.code (.loop body) :: k) s:=by
 have key:∀ n i,μ i=n→inv i→Run X (.code body :: .inLoop body :: k) (st i):=by
  intro n
  induction n using Nat.strongRecOn with
  | _ n ih =>
   intro i hn hi
   refine round i hi fun j s' hj hlt hsub=>?_
   exact EY ((ih (μ j) (by omega) j rfl hj).sub hsub)
 exact GJ ((key _ i0 rfl h0).sub hs)
end
end Go.Ab
namespace Go.Ab
open Go Go.RowKit
noncomputable section
section
variable (X:Env) (n:Nat) (k:List Item) (s:AS)
theorem um (a b:Code):vc X (n+1) (.code (.seq a b) :: k) s=vc X n (.code a :: .code b :: k) s:=nrfl rfl
theorem p9:vc X (n+1) (.code .skip :: k) s=vc X n k s:=nrfl rfl
theorem ki (l:Nat):vc X (n+1) (.code (.label l) :: k) s=vc X n k s:=nrfl rfl
theorem kf (i:Nat) (b:Code):vc X (n+1) (.code (.block i b) :: k) s=vc X n (.code b :: .inBlock i :: k) s:=nrfl rfl
theorem kj (b:Code):vc X (n+1) (.code (.scope b) :: k) s=vc X n (.code b :: .inScope b :: k) s:=nrfl rfl
theorem V3 (i:Nat):vc X (n+1) (.inBlock i :: k) s=vc X n k s:=nrfl rfl
theorem V4 (c:Code):vc X (n+1) (.inScope c :: k) s=vc X n k s:=nrfl rfl
theorem p8 (i:Nat):vc X (n+1) (.code (.exit i) :: k) s=match exitTo i k with | some k'=>vc X n k' s | none=>False:=rfl
theorem p7 (o:Operand) (a b:Code):vc X (n+1) (.code (.cond o a b) :: k) s=match s.ev o with
 | .bool t=>(t=true→vc X n (.code a :: k) s)∧(t=false→vc X n (.code b :: k) s)
 | .abool=>vc X n (.code a :: k) s∧vc X n (.code b :: k) s
 | _=>False:=rfl
variable (all:Array Oper) (st:Nat→Bool) (hc:Bool) (bs:Option Nat) (i nx:Nat) (os:List Oper)
theorem de (M:Md):Xs X (n+1) M [] k s=vc X n k s:=nrfl rfl
theorem Hv (M:Md) (d:Option Nat) (op:Op) (t:TypeId) (p:String) (af:Array Edge) (j:Nat) (want:Bool):Xs X (n+1) M (⟨d,op,t,p,af,some (j,want)⟩ :: os) k s =
  match (M.all[j]?).bind (·.dst) with
  | some e=>match s.get e with
    | .bool b=>(b=true→if want=true then Q4 X n M ⟨d,op,t,p,af,some (j,want)⟩ os k (s.fix e (.bool true)) else Xs X n (M.next ⟨d,op,t,p,af,some (j,want)⟩) os k ((s.fix e (.bool true)).putO d XY)) ∧
                 (b=false→if want=false then Q4 X n M ⟨d,op,t,p,af,some (j,want)⟩ os k (s.fix e (.bool false)) else Xs X n (M.next ⟨d,op,t,p,af,some (j,want)⟩) os k ((s.fix e (.bool false)).putO d XY))
    | .tup []=>Xs X n (M.next ⟨d,op,t,p,af,some (j,want)⟩) os k (s.putO d XY)
    | _=>False
  | none=>False:=rfl
theorem bE (b:Nat) (o:Oper):Md.next ⟨all,st,hc,some b,i,nx⟩ o=⟨all,st,hc,some b,i+1,if Qu hc o.op=2 then nx+1 else nx⟩:=rfl
theorem Js (M:Md) (o:Oper) (h1:Zp o.op=none) (h2:Qu M.hcall o.op≠2) :
 Q4 X (n+1) M o os k s=XN (QZ X.P (M.strict M.i) none o.op s.ev s.h) fun r=>Xs X n (M.next o) os k (({ s with h:=r.2 }:AS).putO o.dst r.1):=by
 unfold Q4
 simp only [h1]
 cases M.base with
 | none=>rfl
 | some b=>simp only [h2,if_false]
theorem BC (o:Oper) (h1:Zp o.op=none) :
 Q4 X (n+1) ⟨all,st,hc,none,i,nx⟩ o os k s=XN (QZ X.P (st i) none o.op s.ev s.h) fun r=>Xs X n ⟨all,st,hc,none,i+1,nx⟩ os k (({ s with h:=r.2 }:AS).putO o.dst r.1):=by
 unfold Q4
 simp only [h1]
 rfl
theorem Et (b:Nat) (o:Oper) (h1:Zp o.op=none) (h2:Qu hc o.op=2) :
 Q4 X (n+1) ⟨all,st,hc,some b,i,nx⟩ o os k s=(s.h[nx]?=some .unborn∧XN (QZ X.P (st i) (some nx) o.op s.ev s.h) fun r=>Xs X n ⟨all,st,hc,some b,i+1,nx+1⟩ os k (({ s with h:=r.2 }:AS).putO o.dst r.1)):=by
 unfold Q4
 simp only [h1,h2,if_true,Md.next]
end
theorem BS {α β:Type} (f:α→β) (o:Option α) (K:β→Prop):XN (o.map f) K=XN o (fun x=>K (f x)):=by
 unfold XN
 cases o <;> simp
section
variable (X:Env) (n:Nat) (k:List Item) (s:AS) (all:Array Oper) (st:Nat→Bool) (hc:Bool) (bs:Option Nat) (i nx:Nat) (os:List Oper) (d:Option Nat) (t:TypeId) (p:String) (af:Array Edge) (g:Option (Nat×Bool))
theorem Jr (M:Md) (o:Oper) (h2:Qu M.hcall o.op≠2):M.next o={ M with i:=M.i+1 }:=by
 unfold Md.next
 cases M.base with
 | none=>rfl
 | some b=>simp [h2]
theorem Hu (o:Op) (v:AV) (h1:Zp o=none) (h2:Qu hc o≠2) (h3:QZ X.P (st i) none o s.ev s.h=some (v,s.h)) :
 Q4 X (n+1) ⟨all,st,hc,bs,i,nx⟩ ⟨d,o,t,p,af,g⟩ os k s=Xs X n ⟨all,st,hc,bs,i+1,nx⟩ os k (s.putO d v):=by
 rw [Js (h1:=h1) (h2:=h2),h3,obind_some,Jr (h2:=h2)]
theorem Kr (o:Op) (q:Option AV) (h1:Zp o=none) (h2:Qu hc o≠2) (h3:QZ X.P (st i) none o s.ev s.h=q.map fun v=>(v,s.h)) :
 Q4 X (n+1) ⟨all,st,hc,bs,i,nx⟩ ⟨d,o,t,p,af,g⟩ os k s=XN q fun v=>Xs X n ⟨all,st,hc,bs,i+1,nx⟩ os k (s.putO d v):=by
 rw [Js (h1:=h1) (h2:=h2),h3,BS,Jr (h2:=h2)]
theorem d9 (o:Op) (q:Option (List AO)) (h1:Zp o=none) (h2:Qu hc o≠2) (h3:QZ X.P (st i) none o s.ev s.h=q.map fun h'=>(XY,h')) :
 Q4 X (n+1) ⟨all,st,hc,bs,i,nx⟩ ⟨d,o,t,p,af,g⟩ os k s=XN q fun h'=>Xs X n ⟨all,st,hc,bs,i+1,nx⟩ os k (({ s with h:=h' }:AS).putO d XY):=by
 rw [Js (h1:=h1) (h2:=h2),h3,BS,Jr (h2:=h2)]
theorem Wc (x:Operand):Q4 X (n+1) ⟨all,st,hc,bs,i,nx⟩ ⟨d,.move x,t,p,af,g⟩ os k s=Xs X n ⟨all,st,hc,bs,i+1,nx⟩ os k (s.putO d (s.ev x)):=Hu _ _ _ _ _ _ _ _ _ _ _ _ _ _ _ _ _ _ rfl (by simp [Qu]) rfl
theorem Nl (x:Operand):Q4 X (n+1) ⟨all,st,hc,bs,i,nx⟩ ⟨d,.assign x,t,p,af,g⟩ os k s=Xs X n ⟨all,st,hc,bs,i+1,nx⟩ os k (s.putO d (s.ev x)):=Hu _ _ _ _ _ _ _ _ _ _ _ _ _ _ _ _ _ _ rfl (by simp [Qu]) rfl
theorem Wa (u:TypeId) (x:Operand):Q4 X (n+1) ⟨all,st,hc,bs,i,nx⟩ ⟨d,.load u x,t,p,af,g⟩ os k s=XN (JK X.P (st i) u (s.ev x) s.h) fun v=>Xs X n ⟨all,st,hc,bs,i+1,nx⟩ os k (s.putO d v):=Kr _ _ _ _ _ _ _ _ _ _ _ _ _ _ _ _ _ _ rfl (by simp [Qu]) rfl
theorem iR (o:BinOp) (u u':TypeId) (x y:Operand):Q4 X (n+1) ⟨all,st,hc,bs,i,nx⟩ ⟨d,.binOp o u x y u',t,p,af,g⟩ os k s=XN (Mt X.P o u y (s.ev x) (s.ev y)) fun v=>Xs X n ⟨all,st,hc,bs,i+1,nx⟩ os k (s.putO d v):=Kr _ _ _ _ _ _ _ _ _ _ _ _ _ _ _ _ _ _ rfl (by simp [Qu]) rfl
theorem q7 (o:UnOp) (u:TypeId) (x:Operand):Q4 X (n+1) ⟨all,st,hc,bs,i,nx⟩ ⟨d,.unOp o u x,t,p,af,g⟩ os k s=XN (qX o (s.ev x)) fun v=>Xs X n ⟨all,st,hc,bs,i+1,nx⟩ os k (s.putO d v):=Kr _ _ _ _ _ _ _ _ _ _ _ _ _ _ _ _ _ _ rfl (by simp [Qu]) rfl
theorem W8 (u u':TypeId) (x:Operand):Q4 X (n+1) ⟨all,st,hc,bs,i,nx⟩ ⟨d,.convert u u' x,t,p,af,g⟩ os k s=XN (Mu X.P u u' (s.ev x)) fun v=>Xs X n ⟨all,st,hc,bs,i+1,nx⟩ os k (s.putO d v):=Kr _ _ _ _ _ _ _ _ _ _ _ _ _ _ _ _ _ _ rfl (by simp [Qu]) rfl
theorem FI (u:TypeId) (x y:Operand):Q4 X (n+1) ⟨all,st,hc,bs,i,nx⟩ ⟨d,.indexAddr u x y,t,p,af,g⟩ os k s=XN (Ev X.P u (s.ev x) (s.ev y)) fun v=>Xs X n ⟨all,st,hc,bs,i+1,nx⟩ os k (s.putO d v):=Kr _ _ _ _ _ _ _ _ _ _ _ _ _ _ _ _ _ _ rfl (by simp [Qu]) rfl
theorem Wd (u:TypeId) (x:Operand):Q4 X (n+1) ⟨all,st,hc,bs,i,nx⟩ ⟨d,.sliceToArrayPointer u x,t,p,af,g⟩ os k s=XN (MA X.P u (s.ev x)) fun v=>Xs X n ⟨all,st,hc,bs,i+1,nx⟩ os k (s.putO d v):=Kr _ _ _ _ _ _ _ _ _ _ _ _ _ _ _ _ _ _ rfl (by simp [Qu]) rfl
theorem FH (u:TypeId) (x:Operand) (j:Nat):Q4 X (n+1) ⟨all,st,hc,bs,i,nx⟩ ⟨d,.fieldAddr u x j,t,p,af,g⟩ os k s=XN (DK X.P u (s.ev x) j) fun v=>Xs X n ⟨all,st,hc,bs,i+1,nx⟩ os k (s.putO d v):=Kr _ _ _ _ _ _ _ _ _ _ _ _ _ _ _ _ _ _ rfl (by simp [Qu]) rfl
theorem RV (u:TypeId) (ps:Array (Nat×Operand)):Q4 X (n+1) ⟨all,st,hc,bs,i,nx⟩ ⟨d,.build u ps,t,p,af,g⟩ os k s=XN (Ga X.P u (ps.toList.map fun q=>(q.1,s.ev q.2))) fun v=>Xs X n ⟨all,st,hc,bs,i+1,nx⟩ os k (s.putO d v):=Kr _ _ _ _ _ _ _ _ _ _ _ _ _ _ _ _ _ _ rfl (by simp [Qu]) rfl
theorem El (u:TypeId) (m:Nat) (ps:Array (Nat×Operand)):Q4 X (n+1) ⟨all,st,hc,bs,i,nx⟩ ⟨d,.buildSlice u m ps,t,p,af,g⟩ os k s=XN (ZY X.P u m (ps.toList.map fun q=>(q.1,s.ev q.2))) fun v=>Xs X n ⟨all,st,hc,bs,i+1,nx⟩ os k (s.putO d v):=Kr _ _ _ _ _ _ _ _ _ _ _ _ _ _ _ _ _ _ rfl (by simp [Qu]) rfl
theorem S4 (u:TypeId) (x y:Operand):Q4 X (n+1) ⟨all,st,hc,bs,i,nx⟩ ⟨d,.store u x y,t,p,af,g⟩ os k s=XN (AE X.P (st i) u (s.ev x) (s.ev y) s.h) fun h'=>Xs X n ⟨all,st,hc,bs,i+1,nx⟩ os k (({ s with h:=h' }:AS).putO d XY):=d9 _ _ _ _ _ _ _ _ _ _ _ _ _ _ _ _ _ _ rfl (by simp [Qu]) rfl
theorem Hg (x:Operand):Q4 X (n+1) ⟨all,st,hc,bs,i,nx⟩ ⟨d,.nilCheck x,t,p,af,g⟩ os k s=((s.ev x).isPtr=true∧Xs X n ⟨all,st,hc,bs,i+1,nx⟩ os k (s.putO d (s.ev x))):=by
 rw [Js (h1:=rfl) (h2:=by simp [Qu]),Jr (h2:=by simp [Qu])]
 show XN (Qd _ (some (s.ev x,s.h))) _=_
 rw [obind_oif,obind_some]
theorem S3 (u:TypeId) (x:Operand) (lo hi:Option Operand):Q4 X (n+1) ⟨all,st,hc,bs,i,nx⟩ ⟨d,.slice u x lo hi none,t,p,af,g⟩ os k s =
  XN (CU X.P u (s.ev x) (lo.map s.ev) (hi.map s.ev) none) fun v=>Xs X n ⟨all,st,hc,bs,i+1,nx⟩ os k (s.putO d v):=by
 rw [Js (h1:=rfl) (h2:=by simp [Qu]),Jr (h2:=by simp [Qu])]
 show XN (Qd _ (Option.map _ _)) _=_
 rw [obind_oif,BS]
 simp
theorem Nm (u:TypeId) (x:Operand) (lo:Option Operand) (hi mx:Operand):Q4 X (n+1) ⟨all,st,hc,bs,i,nx⟩ ⟨d,.slice u x lo (some hi) (some mx),t,p,af,g⟩ os k s =
  XN (CU X.P u (s.ev x) (lo.map s.ev) (some (s.ev hi)) (some (s.ev mx))) fun v=>Xs X n ⟨all,st,hc,bs,i+1,nx⟩ os k (s.putO d v):=by
 rw [Js (h1:=rfl) (h2:=by simp [Qu]),Jr (h2:=by simp [Qu])]
 show XN (Qd _ (Option.map _ _)) _=_
 rw [obind_oif,BS]
 simp
theorem nY (x y z:Operand):Q4 X (n+1) ⟨all,st,hc,bs,i,nx⟩ ⟨d,.pick x y z,t,p,af,g⟩ os k s=(match s.ev x with
  | .bool true=>Xs X n ⟨all,st,hc,bs,i+1,nx⟩ os k (s.putO d (s.ev y))
  | .bool false=>Xs X n ⟨all,st,hc,bs,i+1,nx⟩ os k (s.putO d (s.ev z))
  | _=>False):=by
 rw [Js (h1:=rfl) (h2:=by simp [Qu]),Jr (h2:=by simp [Qu])]
 simp only [QZ]
 cases hx:s.ev x with
 | bool b=>cases b <;> simp
 | _=>simp
theorem Uv (x:Operand) (j:Nat):Q4 X (n+1) ⟨all,st,hc,bs,i,nx⟩ ⟨d,.extract x j,t,p,af,g⟩ os k s=(match s.ev x with
  | .tup l=>j<l.length∧Xs X n ⟨all,st,hc,bs,i+1,nx⟩ os k (s.putO d (l.getD j .any))
  | _=>False):=by
 rw [Js (h1:=rfl) (h2:=by simp [Qu]),Jr (h2:=by simp [Qu])]
 simp only [QZ]
 cases hx:s.ev x <;> simp
theorem He (f:FuncId) (caps:Array Operand):Q4 X (n+1) ⟨all,st,hc,bs,i,nx⟩ ⟨d,.makeFunc (.func f) #[] caps,t,p,af,g⟩ os k s=Xs X n ⟨all,st,hc,bs,i+1,nx⟩ os k (s.putO d (.fn f (caps.toList.map s.ev))):=by
 rw [Js (h1:=rfl) (h2:=by simp [Qu]),Jr (h2:=by simp [Qu])]
 show XN (Qd _ _) _=_
 rw [obind_oif,obind_some]
 simp
theorem iT (x:Operand) (u:TypeId):Q4 X (n+1) ⟨all,st,hc,bs,i,nx⟩ ⟨d,.call { callee:=.builtin .len,args:=#[x],argTypes:=#[u] },t,p,af,g⟩ os k s =
  XN (To X.P u (s.ev x)) fun v=>Xs X n ⟨all,st,hc,bs,i+1,nx⟩ os k (s.putO d v):=Kr _ _ _ _ _ _ _ _ _ _ _ _ _ _ _ _ _ _ rfl (by simp [Qu]) rfl
theorem iV (x y:Operand) (us:Array TypeId):Q4 X (n+1) ⟨all,st,hc,bs,i,nx⟩ ⟨d,.call { callee:=.builtin .min,args:=#[x,y],argTypes:=us },t,p,af,g⟩ os k s =
  XN (Ys (s.ev x) (s.ev y)) fun v=>Xs X n ⟨all,st,hc,bs,i+1,nx⟩ os k (s.putO d v):=Kr _ _ _ _ _ _ _ _ _ _ _ _ _ _ _ _ _ _ rfl (by simp [Qu]) rfl
theorem iU (x y:Operand) (us:Array TypeId):Q4 X (n+1) ⟨all,st,hc,bs,i,nx⟩ ⟨d,.call { callee:=.builtin .max,args:=#[x,y],argTypes:=us },t,p,af,g⟩ os k s =
  XN (Yr (s.ev x) (s.ev y)) fun v=>Xs X n ⟨all,st,hc,bs,i+1,nx⟩ os k (s.putO d v):=Kr _ _ _ _ _ _ _ _ _ _ _ _ _ _ _ _ _ _ rfl (by simp [Qu]) rfl
theorem Nk (x y:Operand) (u:TypeId):Q4 X (n+1) ⟨all,st,hc,bs,i,nx⟩ ⟨d,.call { callee:=.builtin .append,args:=#[x,y],argTypes:=#[u,u] },t,p,af,g⟩ os k s =
  XN (Ke X.P u (s.ev x) (s.ev y) s.h) fun r=>Xs X n ⟨all,st,hc,bs,i+1,nx⟩ os k (({ s with h:=r.2 }:AS).putO d r.1):=by
 rw [Js (h1:=rfl) (h2:=by simp [Qu]),Jr (h2:=by simp [Qu])]
 show XN (if u=u then _ else _) _=_
 rw [if_pos rfl]
theorem W9 (x y:Operand) (u u':TypeId):Q4 X (n+1) ⟨all,st,hc,bs,i,nx⟩ ⟨d,.call { callee:=.builtin .copy,args:=#[x,y],argTypes:=#[u,u'] },t,p,af,g⟩ os k s =
  XN (Ee X.P u (s.ev x) (s.ev y) s.h) fun r=>Xs X n ⟨all,st,hc,bs,i+1,nx⟩ os k (({ s with h:=r.2 }:AS).putO d r.1):=by
 rw [Js (h1:=rfl) (h2:=by simp [Qu]),Jr (h2:=by simp [Qu])]
 rfl
theorem RW (x:Operand) (u:TypeId):Q4 X (n+1) ⟨all,st,hc,bs,i,nx⟩ ⟨d,.call { callee:=.builtin .clear,args:=#[x],argTypes:=#[u] },t,p,af,g⟩ os k s =
  XN (Bt X.P u (s.ev x) s.h) fun r=>Xs X n ⟨all,st,hc,bs,i+1,nx⟩ os k (({ s with h:=r.2 }:AS).putO d r.1):=by
 rw [Js (h1:=rfl) (h2:=by simp [Qu]),Jr (h2:=by simp [Qu])]
 rfl
theorem RU (u:TypeId):Q4 X (n+1) ⟨all,st,hc,none,i,nx⟩ ⟨d,.alloc u,t,p,af,g⟩ os k s =
  XN (ZI X.P none u s.h) fun r=>Xs X n ⟨all,st,hc,none,i+1,nx⟩ os k (({ s with h:=r.2 }:AS).putO d r.1):=BC _ _ _ _ _ _ _ _ _ _ _ rfl
theorem iS (u:TypeId) (x:Operand):Q4 X (n+1) ⟨all,st,hc,none,i,nx⟩ ⟨d,.box u x,t,p,af,g⟩ os k s =
  XN (LW none (s.ev x) s.h) fun r=>Xs X n ⟨all,st,hc,none,i+1,nx⟩ os k (({ s with h:=r.2 }:AS).putO d r.1):=BC _ _ _ _ _ _ _ _ _ _ _ rfl
theorem Wb (u:TypeId) (x y:Operand):Q4 X (n+1) ⟨all,st,hc,none,i,nx⟩ ⟨d,.makeSlice u x y,t,p,af,g⟩ os k s =
  XN (Bd X.P none u (s.ev x) (s.ev y) s.h) fun r=>Xs X n ⟨all,st,hc,none,i+1,nx⟩ os k (({ s with h:=r.2 }:AS).putO d r.1):=BC _ _ _ _ _ _ _ _ _ _ _ rfl
variable (b:Nat)
theorem Nj (u:TypeId):Q4 X (n+1) ⟨all,st,hc,some b,i,nx⟩ ⟨d,.alloc u,t,p,af,g⟩ os k s =
  (s.h[nx]?=some .unborn∧XN (ZI X.P (some nx) u s.h) fun r=>Xs X n ⟨all,st,hc,some b,i+1,nx+1⟩ os k (({ s with h:=r.2 }:AS).putO d r.1)):=Et _ _ _ _ _ _ _ _ _ _ _ _ rfl rfl
theorem RZ (u:TypeId) (x y:Operand):Q4 X (n+1) ⟨all,st,hc,some b,i,nx⟩ ⟨d,.makeSlice u x y,t,p,af,g⟩ os k s =
  (s.h[nx]?=some .unborn∧XN (Bd X.P (some nx) u (s.ev x) (s.ev y) s.h) fun r=>Xs X n ⟨all,st,hc,some b,i+1,nx+1⟩ os k (({ s with h:=r.2 }:AS).putO d r.1)):=Et _ _ _ _ _ _ _ _ _ _ _ _ rfl rfl
variable (n0:Nat) (hid:List Nat) (sl:List AV) (tm:List (Nat×AV)) (h:List AO)
theorem rI (t:Nat):AS.ev ⟨n0,hid,sl,tm,h⟩ (.tmp t)=if t<n0 then sl.getD t .any else Xq tm t:=nrfl rfl
theorem gD (s:AS) (v:Value):s.ev (.const v)=dk v:=nrfl rfl
theorem mJ (s:AS) (f:FuncId):s.ev (.func f)=.fn f []:=nrfl rfl
theorem nE (t:Nat):AS.get ⟨n0,hid,sl,tm,h⟩ t=if t<n0 then sl.getD t .any else Xq tm t:=nrfl rfl
theorem bS (i:Nat) (v:AV):AS.putO ⟨n0,hid,sl,tm,h⟩ (some i) v=if i<n0 then ⟨n0,hid,sl.set i v,tm,h⟩ else ⟨n0,hid,sl,(i,v) :: tm,h⟩:=nrfl rfl
theorem bQ (s:AS) (v:AV):s.putO none v=s:=nrfl rfl
theorem mN (i:Nat) (v:AV):AS.fix ⟨n0,hid,sl,tm,h⟩ i v=if i<n0 then ⟨n0,hid,sl.set i v,tm,h⟩ else ⟨n0,hid,sl,Lj tm i v,h⟩:=nrfl rfl
theorem mm:AS.clr ⟨n0,[],sl,tm,h⟩=⟨n0,[],sl,[],h⟩:=by simp [AS.clr]
def H3 (hid:List Nat):List (Nat×AV)→List (Nat×AV)
 | []=>[]
 | (i,v) :: l=>if hid.contains i=true then (i,v) :: H3 hid l else H3 hid l
theorem mj (j:Nat) (hid':List Nat):AS.clr ⟨n0,j :: hid',sl,tm,h⟩=⟨n0,j :: hid',sl,H3 (j :: hid') tm,h⟩:=by
 unfold AS.clr
 congr 1
 show tm.filter (fun p=>(j :: hid').contains p.1)=_
 induction tm with
 | nil=>rfl
 | cons x l ih =>
  obtain ⟨i,v⟩:=x
  simp only [List.filter_cons,H3,ih]
def EF (hcall:Bool):List Oper→Nat
 | []=>0
 | o :: os=>(if Qu hcall o.op=2 then 1 else 0)+EF hcall os
theorem aj (hcall:Bool) (ops:Array Oper):EG hcall ops=EF hcall ops.toList:=by
 unfold EG
 induction ops.toList with
 | nil=>rfl
 | cons o os ih =>
  simp only [List.filter_cons,EF]
  by_cases hc:Qu hcall o.op=2
  ·simp [hc,ih]; omega
  ·simp [hc,ih]
theorem au (hcall:Bool) (ops:Array Oper):IH hcall ops ⟨n0,hid,sl,tm,h⟩ =
  ⟨n0,hid,sl,(AS.clr ⟨n0,hid,sl,tm,h⟩).tm,h ++ List.replicate (EF hcall ops.toList) .unborn⟩:=by
 unfold IH; rw [aj]; rfl
end
theorem mr (k:IntKind) (n:Int):dk (.int k n)=.int k n:=nrfl rfl
theorem fT (b:Bool):dk (.bool b)=.bool b:=nrfl rfl
theorem ms:dk (.pointer none)=.nil:=nrfl rfl
theorem rj:dk (.slice none 0 0)=.sl 0 0 (fun _=>.any) true:=nrfl rfl
theorem ri:dk .nilFunc=.nilfn:=nrfl rfl
def Qb {α:Type} (e:α→AV) (d:α) (l:List α):Nat→AV:=fun j=>e (l.getD j d)
def Qn {α:Type} (e:α→AV) (d:α) (l:List α):AV:=.sl l.length l.length (Qb e d l) false
def I (n:Int):AV:=.int .i64 n
def X4 (l:List Int):AV:=Qn I 0 l
def Zo (l:List Bool):AV:=Qn AV.bool false l
def BP (l:List (List Int)):AV:=Qn X4 [] l
def Xt {α:Type} (e:α→List AV) (s:Nat) (d:α) (l:List α):Nat→AV:=fun j=>(e (l.getD (j / s) d)).getD (j % s) .any
def uB {α:Type} (e:α→List AV) (s:Nat) (d:α) (l:List α):AV:=.sl l.length (l.length*s) (Xt e s d l) false
theorem JD {α:Type} (e:α→List AV) (s:Nat) (d:α) (l:List α) (i j:Nat) (hj:j<s):Xt e s d l (i*s+j)=(e (l.getD i d)).getD j .any:=by
 unfold Xt
 rw [Nat.mul_comm,Nat.mul_add_div (by omega),Nat.mul_add_mod,Nat.div_eq_of_lt hj,Nat.mod_eq_of_lt hj,Nat.add_zero]
theorem JT {α:Type} (e:α→List AV) (s:Nat) (d:α) (l:List α) (i:Nat) (hj:0<s):Xt e s d l (i*s)=(e (l.getD i d)).getD 0 .any:=by
 simpa using JD e s d l i 0 hj
theorem K7 {α:Type} (e:α→AV) (d:α) (l:List α) (j:Nat):Qb e d l j=e (l.getD j d):=nrfl rfl
theorem uH (n:Int):I n=.int .i64 n:=nrfl rfl
theorem X9 (n:Int):Settled (I n):=Jl _ _
theorem DA {α:Type} {e:α→AV} {d:α} {l:List α} (h:∀ a,Settled (e a)):Settled (Qn e d l):=QX fun _ _=>h _
theorem X6 (l:List Int):Settled (X4 l):=DA X9
theorem BA (l:List Bool):Settled (Zo l):=DA X2
theorem Jf (l:List (List Int)):Settled (BP l):=DA X6
theorem Xe {l:List AV} (hl:∀ a∈l,Settled a) (j:Nat):Settled (l.getD j .any):=by
 rw [List.getD_eq_getElem?_getD]
 cases hx:l[j]? with
 | none=>exact Bn
 | some x=>exact hl _ (List.mem_of_getElem? hx)
theorem DB {α:Type} {e:α→List AV} {s:Nat} {d:α} {l:List α} (h:∀ a,∀ x∈e a,Settled x):Settled (uB e s d l):=QX fun _ _=>Xe (h _) _
theorem eY {α:Type} (e:α→AV) (d:α) (l m:List α):QK (l.length*1) (Qb e d l) (m.length*1) (Qb e d m)=Qb e d (l ++ m):=by
 funext j
 unfold QK Qb
 simp only [Nat.mul_one,List.getD_eq_getElem?_getD]
 by_cases h1:j<l.length
 ·rw [if_pos h1,List.getElem?_append_left h1]
 ·rw [if_neg h1,List.getElem?_append_right (by omega)]
  by_cases h2:j<l.length+m.length
  ·rw [if_pos h2]
  ·rw [if_neg h2,List.getElem?_eq_none (by omega),List.getElem?_eq_none (by omega)]
theorem Ps {α:Type} (e:α→AV) (d:α) (l:List α) (x:α):QK (l.length*1) (Qb e d l) (1*1) (Xk [e x])=Qb e d (l ++ [x]):=by
 rw [← eY e d l [x]]
 funext j
 unfold QK Xk Qb
 simp only [List.length_cons,List.length_nil,Nat.mul_one,Nat.zero_add]
 by_cases h1:j<l.length
 ·rw [if_pos h1,if_pos h1]
 ·by_cases h2:j<l.length+1
  ·obtain rfl:j=l.length:=by omega
   simp
  ·rw [if_neg h1,if_neg h2,if_neg h1,if_neg h2]
theorem WJ {α:Type} (e:α→AV) (d:α) (l:List α) (i:Nat) (x:α) (h:i<l.length):C1 (Qb e d l) i (e x)=Qb e d (l.set i x):=by
 funext j
 unfold C1 Qb
 simp only [List.getD_eq_getElem?_getD]
 by_cases hj:j=i
 ·subst hj; simp [h]
 ·rw [if_neg hj,List.getElem?_set_ne (Ne.symm hj)]
theorem WI (l:List AV) (i:Nat) (a:AV) (h:i<l.length):C1 (Xk l) i a=Xk (l.set i a):=by
 funext j
 unfold C1 Xk
 simp only [List.getD_eq_getElem?_getD]
 by_cases hj:j=i
 ·subst hj; simp [h]
 ·rw [if_neg hj,List.getElem?_set_ne (Ne.symm hj)]
structure Fn (P:Program) (f:FuncId) (args:List AV) (r:AV):Prop where
 call:PureCall P f args r
 settled:∀ a∈args,Settled a
theorem X0 {X:Env} {M:Md} {o:Oper} {g:FuncId} {caps args as':List AV} {K:AS→Prop} {s:AS} {r:AV} (h:Fn X.P g as' r) (ha:(args ++ caps).map AV.loose=as') (hK:K (s.putO o.dst r)) :
  Ec X M o (.fn g caps) args K s:=by
 subst ha
 exact ⟨r,s.h,⟨.inl g,caps,rfl,.inl ⟨_,Hw _,h.call,h.settled,rfl⟩⟩,hK⟩
theorem Qm {X:Env} {M:Md} {o:Oper} {g:FuncId} {caps args as':List AV} {K:AS→Prop} {s:AS} {r:AV} (h:Fn X.P g as' r) (ha:WeakL (args ++ caps) as') (hK:K (s.putO o.dst r)) :
  Ec X M o (.fn g caps) args K s :=
 ⟨r,s.h,⟨.inl g,caps,rfl,.inl ⟨_,ha,h.call,h.settled,rfl⟩⟩,hK⟩
theorem OZ {n m m':Nat} {f f':Nat→AV} {t:Bool} (hm:m'≤m) (hf:∀ j,j<m'→f j=f' j):Weak (.sl n m f t) (.sl n m' f' false):=fun c v h=>by
 cases h with
 | sl b base _ _ cap _ _ us hS hc hr hn ht=>exact .sl b base n m' cap f' false us hS (fun j hj=>hc j (by omega)) (fun j hj=>by rw [← hf j hj]; exact hr j (by omega)) hn (by simp)
 | slz a cap _ _ ht =>
  obtain rfl:m'=0:=by omega
  exact .slz _ _ _ _ (by simp)
theorem Jz {X:Env} {M:Md} {o:Oper} {g:FuncId} {caps args as':List AV} {K:AS→Prop} {s:AS} {r:AV} (h:Fn X.P g as' r) (hst:M.strict M.i=false) (ha:SeesL s.h ((args ++ caps).map AV.loose) as') (hf:WP r) (hK:K (s.putO o.dst r)) :
  Ec X M o (.fn g caps) args K s :=
 ⟨r,s.h,⟨.inl g,caps,rfl,.inr (.inl ⟨hst,as',ha,h.call,hf,rfl⟩)⟩,hK⟩
theorem KK {X:Env} {M:Md} {o:Oper} {g:FuncId} {caps args as':List AV} {K:AS→Prop} {s:AS} {r:AV} {H':List AO} (hb:M.hcall=true) (h:HCall X.P g as' s.h r H') (hcon:Ed s.h H')
  (hu:∀ id:Nat,s.h[id]?≠some .unborn) (ha:WeakL (args ++ caps) as') (hK:K (({ s with h:=H' }:AS).putO o.dst r)):Ec X M o (.fn g caps) args K s:=by
 refine ⟨r,H',⟨.inl g,caps,rfl,.inr (.inr ⟨hb,as',ha,fun _=>H',fun h2 ho=>?_,rfl,hcon,fun h2 id ob _ hid=>absurd hid (hu id),fun id hid=>absurd hid (hu id)⟩)⟩,hK⟩
 have:h2=s.h:=by
  apply List.ext_getElem?
  intro i
  exact ho i (hu i)
 rw [this]; exact h
theorem Fn.intro {P:Program} {f:FuncId} {fn:Func} {body:Code} (he:ZH P f) (hf:P.funcs[f]?=some fn) (hb:fn.body=some body) (hm:P.follows .mixedOrders=true) {args:List AV} {r:AV}
  (n0:Nat) (hid str hcs:List Nat) (hok:Qp fn.ntmps str hcs body=true) (hlen:args.length≤fn.ntmps) (hs:∀ a∈args,Settled a)
  (h:Run (QS P fn str hcs r) [.code body] (AS.start n0 hid args [])):Fn P f args r :=
 ⟨PureCall.intro he hf hb hm n0 hid str hcs hok hlen h,hs⟩
theorem De {N:Nat} {c c':Ctx} {a:Act} {s:AS} (hst:St N c a s) (hx:Ext c c') (hr:HRel c') {i:Nat} {v:AV} (hv:Rep c' (a.tmps.getD i undef) v):St N c' a (({ s with h:=c'.H }:AS).put i v):=by
 refine ⟨hst.size,hst.defers,fun j=>?_,by simp,hr⟩
 rcases VT ({ s with h:=c'.H }:AS) i j v with ⟨h1,h2⟩ | h1 | ⟨h1,h2⟩
 ·rw [h1,h2]; exact hv
 ·rw [h1]; exact .any _
 ·rw [h2]; exact hx.rep hst.hrel (hst.slots j)
theorem Jd {m:Nat} {s:AS} (i es:Nat) (f:Nat→AV) {M:Nat} {g:Nat→AV} (hi:s.get i=.sl 0 M g true) :
  Sub m s (({ s with h:=s.h ++ [.row 0 0 f] }:AS).put i (.osl s.h.length 0 es 0 0)):=by
 intro N c a hst
 have hH:=hst.heap
 have hset:(c.H ++ [AO.row 0 0 f])[c.H.length]?=some (.row 0 0 f):=by simp
 have hoth:∀ i,i≠c.H.length→(c.H ++ [AO.row 0 0 f])[i]?=c.H[i]?:=fun i hi=>by
  have:=ZQ (nid:=none) (h:=c.H) (o:=.row 0 0 f) i (by simpa [Qx] using hi)
  simpa [Kb] using this
 obtain ⟨g1,g2⟩:=G3 hst.hrel (id:=c.H.length) (ver:=0) (w:=c.w) hset hoth rfl (.inl (by simp))
 refine ⟨⟨c.w,c.S,K6 c.γ c.H.length none,c.H ++ [.row 0 0 f]⟩,rfl,g2.toB m,?_⟩
 have hv:=hst.slots i
 rw [hi] at hv
 have:=De hst g2 g1 (i:=i) (v:=.osl c.H.length 0 es 0 0) (by
  have hinf:inf (c.H ++ [AO.row 0 0 f]) c.H.length=some 0:=by simp [inf,AO.info]
  cases hq:a.tmps.getD i undef with
  | slice b n cap =>
   rw [hq] at hv
   cases hv with
   | sl _ _ _ _ _ _ _ _ _ _ _ _ ht=>have:=ht rfl; subst this; exact .oslz _ _ _ _ _ hinf
   | slz _ _ _ _ ht=>have:=ht rfl; subst this; exact .oslz _ _ _ _ _ hinf
  | _=>rw [hq] at hv; cases hv)
 simp only [hH] at this ⊢
 exact this
theorem LC {m:Nat} {s:AS} (i:Nat) {id ver es off n k M:Nat} {f:Nat→AV} (hi:s.get i=.osl id ver es off n) (ho:s.h[id]?=some (.con ver k f)) (hle:off+M≤k) (hM:n=0→M=0) :
  Sub m s (s.put i (.sl n M (fun j=>f (off+j)) false)):=by
 intro N c a hst
 have hH:=hst.heap
 refine ⟨c,rfl,(Ext.refl c).toB m,?_⟩
 rw [← hH] at ho
 have hinf:inf c.H id=some ver:=by simp [inf,ho,AO.info]
 have hns:¬ stale c.H id ver:=by
  rintro (⟨v',hi,hlt⟩ | hd)
  ·rw [hinf] at hi; cases hi; omega
  ·simp [inf,hd,AO.info] at hinf
 have hv:=hst.slots i
 rw [hi] at hv
 have hz:n=0→∀ b cap,Rep c (.slice b 0 cap) (.sl n M (fun j=>f (off+j)) false):=by
  rintro hn b cap
  rw [hn,hM hn]
  exact .slz _ _ _ _ (by simp)
 have:=De hst (Ext.refl c) hst.hrel (i:=i) (v:=.sl n M (fun j=>f (off+j)) false) (by
  generalize a.tmps.getD i undef=q at hv
  cases hv with
  | osl _ _ _ _ _ cap b sz hi hg hn hcap hmx =>
   rcases hst.hrel.con id ver k f ho with ⟨h1,_⟩ | ⟨b',sz',cs,el,fr,h1,h2,h3,h4,h5,h6⟩
   ·rw [h1] at hg; cases hg
   ·rw [h1] at hg; cases hg
    refine .sl b off n M cap _ false (fun j=>cs.getD (off+j) undef) h5 (fun j hj=>?_) (fun j hj=>h6 _ (by omega)) hn (by simp)
    have hlt:off+j<cs.size:=by omega
    rw [cell_of_row c.w b _ cs el fr h2]
    simp [hlt,Array.getD]
  | oslz _ _ _ _ b hi=>exact hz rfl b 0
  | oslOld _ _ _ _ _ b cap hn hs=>exact absurd hs hns
  | oslzOld _ _ _ _ b hs=>exact absurd hs hns)
 rwa [show ({ s with h:=c.H }:AS)=s by rw [hH]] at this
theorem C0 {m:Nat} {s:AS} (i:Nat) {id ver off k:Nat} {f:Nat→AV} (hi:s.get i=.ref id ver off) (ho:s.h[id]?=some (.con ver k f)) (hk:0<k) :
  Sub m s (s.put i (.ptr k f off)):=by
 intro N c a hst
 have hH:=hst.heap
 refine ⟨c,rfl,(Ext.refl c).toB m,?_⟩
 rw [← hH] at ho
 have hinf:inf c.H id=some ver:=by simp [inf,ho,AO.info]
 have hns:¬ stale c.H id ver:=by
  rintro (⟨v',hi,hlt⟩ | hd)
  ·rw [hinf] at hi; cases hi; omega
  ·simp [inf,hd,AO.info] at hinf
 have hv:=hst.slots i
 rw [hi] at hv
 have:=De hst (Ext.refl c) hst.hrel (i:=i) (v:=.ptr k f off) (by
  generalize a.tmps.getD i undef=q at hv
  cases hv with
  | ref _ _ _ b sz hi hg =>
   rcases hst.hrel.con id ver k f ho with ⟨h1,h2⟩ | ⟨b',sz',cs,el,fr,h1,h2,h3,h4,h5,h6⟩
   ·omega
   ·rw [h1] at hg; cases hg
    have:=Rep.ptr (c:=c) b 0 k off f (fun j=>cs.getD j undef) h5 (fun j hj=>Zr h2 (by omega) j hj) h6
    rwa [Nat.zero_add] at this
  | refOld _ _ _ b hs=>exact absurd hs hns)
 rwa [show ({ s with h:=c.H }:AS)=s by rw [hH]] at this
end
end Go.Ab
namespace Go.Ab
open Go Go.RowKit
noncomputable section
@[congr] theorem obind_congr {α:Type} {o o':Option α} {K:α→Prop} (h:o=o'):XN o K=XN o' K:=by rw [h]
@[congr] theorem vc_congr {X:Env} {n:Nat} {k:List Item} {s s':AS} (h:s=s'):vc X n k s=vc X n k s':=by rw [h]
@[congr] theorem vcOps_congr {X:Env} {n:Nat} {M:Md} {os:List Oper} {k:List Item} {s s':AS} (h:s=s'):Xs X n M os k s=Xs X n M os k s':=by rw [h]
@[congr] theorem vcOp_congr {X:Env} {n:Nat} {M:Md} {o:Oper} {os:List Oper} {k:List Item} {s s':AS} (h:s=s'):Q4 X n M o os k s=Q4 X n M o os k s':=by rw [h]
@[congr] theorem runL_congr {X:Env} {k:List Item} {s s':AS} (h:s=s'):WY X k s=WY X k s':=by rw [h]
@[congr] theorem run_congr {X:Env} {k:List Item} {s s':AS} (h:s=s'):Run X k s=Run X k s':=by rw [h]
@[congr] theorem retOk_congr {X:Env} {s s':AS} (h:s=s'):RetOk X s=RetOk X s':=by rw [h]
@[congr] theorem retE_congr {X:Env} {s s':AS} (h:s=s'):RetE X s=RetE X s':=by rw [h]
@[congr] theorem callL_congr {X:Env} {M:Md} {o:Oper} {f f':AV} {args args':List AV} {K:AS→Prop} {s s':AS} (h1:f=f') (h2:args=args') (h3:s=s'):Ec X M o f args K s=Ec X M o f' args' K s':=by rw [h1,h2,h3]
@[congr] theorem drawS_congr {b:Bool} {ops:Array Oper} {s s':AS} (h:s=s'):IH b ops s=IH b ops s':=by rw [h]
def AL (ops:Array Oper) (j:Nat):Option Nat:=(ops[j]?).bind (·.dst)
@[congr] theorem dstAt_congr {ops:Array Oper} {j j':Nat} (h:j=j'):AL ops j=AL ops j':=by rw [h]
theorem U0 (o:Oper) (l:List Oper):AL (o :: l).toArray 0=o.dst:=by simp [AL]
theorem TZ (o:Oper) (l:List Oper) (j:Nat):AL (o :: l).toArray (j+1)=AL l.toArray j:=by simp [AL]
def Ku (b:Bool) (T F:Prop):Prop:=(b=true→T)∧(b=false→F)
@[congr] theorem guardP_congr {b b':Bool} {T F:Prop} (h:b=b'):Ku b T F=Ku b' T F:=by rw [h]
theorem QL {b:Bool} {T F:Prop} (h1:b=true→T) (h2:b=false→F):Ku b T F:=⟨h1,h2⟩
theorem H8 (T F:Prop):Ku true T F=T:=by simp [Ku]
theorem Fx (T F:Prop):Ku false T F=F:=by simp [Ku]
theorem IP (p:Prop) [Decidable p] (T F:Prop):Ku (decide p) T F=((p→T)∧(¬ p→F)):=by simp [Ku]
theorem H7 (p:Prop) [Decidable p] (T F:Prop):Ku (!decide p) T F=((¬ p→T)∧(p→F)):=by simp [Ku]
def v6 (a:AV) (T F:Prop):Prop:=match a with | .bool b=>Ku b T F | .abool=>T∧F | _=>False
@[congr] theorem cAt_congr {a a':AV} {T F:Prop} (h:a=a'):v6 a T F=v6 a' T F:=by rw [h]
theorem PD (b:Bool) (T F:Prop):v6 (.bool b) T F=Ku b T F:=nrfl rfl
def kI (a:AV) (T F U:Prop):Prop:=match a with | .bool b=>Ku b T F | .tup []=>U | _=>False
@[congr] theorem gAt_congr {a a':AV} {T F U:Prop} (h:a=a'):kI a T F U=kI a' T F U:=by rw [h]
theorem Rf (b:Bool) (T F U:Prop):kI (.bool b) T F U=Ku b T F:=nrfl rfl
theorem N2 (T F U:Prop):kI XY T F U=U:=nrfl rfl
def mv (o:Option Nat) (K:Nat→Prop):Prop:=match o with | some e=>K e | none=>False
@[congr] theorem dAt_congr {o o':Option Nat} {K:Nat→Prop} (h:o=o'):mv o K=mv o' K:=by rw [h]
theorem PL (e:Nat) (K:Nat→Prop):mv (some e) K=K e:=nrfl rfl
def tI (a:AV) (T F:Prop):Prop:=match a with | .bool true=>T | .bool false=>F | _=>False
@[congr] theorem pAt_congr {a a':AV} {T F:Prop} (h:a=a'):tI a T F=tI a' T F:=by rw [h]
theorem S5 (T F:Prop):tI (.bool true) T F=T:=nrfl rfl
theorem Nn (T F:Prop):tI (.bool false) T F=F:=nrfl rfl
def kM (a:AV) (j:Nat) (K:AV→Prop):Prop:=match a with | .tup l=>j<l.length∧K (l.getD j .any) | _=>False
@[congr] theorem xAt_congr {a a':AV} {j:Nat} {K:AV→Prop} (h:a=a'):kM a j K=kM a' j K:=by rw [h]
theorem T3 (a:AV) (l:List AV) (K:AV→Prop):kM (.tup (a :: l)) 0 K=K a:=by simp [kM]
theorem T2 (a:AV) (l:List AV) (j:Nat) (K:AV→Prop):kM (.tup (a :: l)) (j+1) K=kM (.tup l) j K:=by simp [kM]
def ve (o:Option (List Item)) (K:List Item→Prop):Prop:=match o with | some k=>K k | none=>False
@[congr] theorem eAt_congr {o o':Option (List Item)} {K:List Item→Prop} (h:o=o'):ve o K=ve o' K:=by rw [h]
theorem PO (k:List Item) (K:List Item→Prop):ve (some k) K=K k:=nrfl rfl
theorem kg (X:Env) (n:Nat) (k:List Item) (s:AS) (o:Operand) (a b:Code):vc X (n+1) (.code (.cond o a b) :: k) s=v6 (s.ev o) (vc X n (.code a :: k) s) (vc X n (.code b :: k) s):=by
 rw [p7]
 unfold v6 Ku
 cases s.ev o <;> rfl
theorem kh (X:Env) (n:Nat) (k:List Item) (s:AS) (i:Nat):vc X (n+1) (.code (.exit i) :: k) s=ve (exitTo i k) fun k'=>vc X n k' s:=by
 rw [p8]
 unfold ve
 cases exitTo i k <;> rfl
theorem iW (X:Env) (n:Nat) (k:List Item) (s:AS) (all:Array Oper) (st:Nat→Bool) (hc:Bool) (bs:Option Nat) (i nx:Nat) (os:List Oper) (d:Option Nat) (t:TypeId) (p:String) (af:Array Edge) (g:Option (Nat×Bool)) (x y z:Operand) :
  Q4 X (n+1) ⟨all,st,hc,bs,i,nx⟩ ⟨d,.pick x y z,t,p,af,g⟩ os k s=tI (s.ev x) (Xs X n ⟨all,st,hc,bs,i+1,nx⟩ os k (s.putO d (s.ev y))) (Xs X n ⟨all,st,hc,bs,i+1,nx⟩ os k (s.putO d (s.ev z))):=by
 rw [nY]
 unfold tI
 cases hx:s.ev x with
 | bool b=>cases b <;> rfl
 | _=>rfl
theorem RX (X:Env) (n:Nat) (k:List Item) (s:AS) (all:Array Oper) (st:Nat→Bool) (hc:Bool) (bs:Option Nat) (i nx:Nat) (os:List Oper) (d:Option Nat) (t:TypeId) (p:String) (af:Array Edge) (g:Option (Nat×Bool)) (x:Operand) (j:Nat) :
  Q4 X (n+1) ⟨all,st,hc,bs,i,nx⟩ ⟨d,.extract x j,t,p,af,g⟩ os k s=kM (s.ev x) j fun v=>Xs X n ⟨all,st,hc,bs,i+1,nx⟩ os k (s.putO d v):=by
 rw [Uv]
 unfold kM
 cases hx:s.ev x <;> rfl
theorem dd (X:Env) (n:Nat) (k:List Item) (s:AS) (all:Array Oper) (st:Nat→Bool) (hc:Bool) (bs:Option Nat) (i nx:Nat) (os:List Oper)
  (d:Option Nat) (op:Op) (t:TypeId) (p:String) (af:Array Edge) (j:Nat):Xs X (n+1) ⟨all,st,hc,bs,i,nx⟩ (⟨d,op,t,p,af,some (j,true)⟩ :: os) k s =
 mv (AL all j) fun e=>kI (s.get e) (Q4 X n ⟨all,st,hc,bs,i,nx⟩ ⟨d,op,t,p,af,some (j,true)⟩ os k (s.fix e (.bool true)))
  (Xs X n (Md.next ⟨all,st,hc,bs,i,nx⟩ ⟨d,op,t,p,af,some (j,true)⟩) os k ((s.fix e (.bool false)).putO d XY))
  (Xs X n (Md.next ⟨all,st,hc,bs,i,nx⟩ ⟨d,op,t,p,af,some (j,true)⟩) os k (s.putO d XY)):=by
 rw [Hv]
 show (match AL all j with | some e=>_ | none=>False)=_
 unfold mv
 cases AL all j with
 | none=>rfl
 | some e =>
  simp only
  cases hx:s.get e with
  | bool b=>simp only [kI,Ku]; simp
  | tup l=>cases l <;> rfl
  | _=>rfl
theorem dc (X:Env) (n:Nat) (k:List Item) (s:AS) (all:Array Oper) (st:Nat→Bool) (hc:Bool) (bs:Option Nat) (i nx:Nat) (os:List Oper)
  (d:Option Nat) (op:Op) (t:TypeId) (p:String) (af:Array Edge) (j:Nat):Xs X (n+1) ⟨all,st,hc,bs,i,nx⟩ (⟨d,op,t,p,af,some (j,false)⟩ :: os) k s =
 mv (AL all j) fun e=>kI (s.get e) (Xs X n (Md.next ⟨all,st,hc,bs,i,nx⟩ ⟨d,op,t,p,af,some (j,false)⟩) os k ((s.fix e (.bool true)).putO d XY))
  (Q4 X n ⟨all,st,hc,bs,i,nx⟩ ⟨d,op,t,p,af,some (j,false)⟩ os k (s.fix e (.bool false)))
  (Xs X n (Md.next ⟨all,st,hc,bs,i,nx⟩ ⟨d,op,t,p,af,some (j,false)⟩) os k (s.putO d XY)):=by
 rw [Hv]
 show (match AL all j with | some e=>_ | none=>False)=_
 unfold mv
 cases AL all j with
 | none=>rfl
 | some e =>
  simp only
  cases hx:s.get e with
  | bool b=>simp only [kI,Ku]; simp
  | tup l=>cases l <;> rfl
  | _=>rfl
theorem SR (X:Env) (n:Nat) (k:List Item) (s:AS) (all:Array Oper) (st:Nat→Bool) (hc:Bool) (i nx:Nat) (o:Oper) (os:List Oper) :
  Xs X n (Md.next ⟨all,st,hc,none,i,nx⟩ o) os k s=Xs X n ⟨all,st,hc,none,i+1,nx⟩ os k s:=nrfl rfl
theorem SS (X:Env) (n:Nat) (k:List Item) (s:AS) (all:Array Oper) (st:Nat→Bool) (hc:Bool) (b i nx:Nat) (o:Oper) (os:List Oper) :
  Xs X n (Md.next ⟨all,st,hc,some b,i,nx⟩ o) os k s=if Qu hc o.op=2 then Xs X n ⟨all,st,hc,some b,i+1,nx+1⟩ os k s else Xs X n ⟨all,st,hc,some b,i+1,nx⟩ os k s:=by
 rw [bE]
 split <;> simp [*]
theorem SQ (X:Env) (n:Nat) (k:List Item) (s:AS) (all:Array Oper) (st:Nat→Bool) (hc:Bool) (bs:Option Nat) (i nx:Nat) (os:List Oper)
  (d:Option Nat) (op:Op) (t:TypeId) (p:String) (af:Array Edge):Xs X (n+1) ⟨all,st,hc,bs,i,nx⟩ (⟨d,op,t,p,af,none⟩ :: os) k s=Q4 X n ⟨all,st,hc,bs,i,nx⟩ ⟨d,op,t,p,af,none⟩ os k s:=nrfl rfl
theorem aB (i j:Nat) (k:List Item):exitTo i (.inBlock j :: k)=if i=j then some k else exitTo i k:=by
 simp only [exitTo,beq_iff_eq]
 first | rfl | (by_cases h:i=j <;> simp [h,eq_comm])
theorem PS (i:Nat) (c:Code) (k:List Item):exitTo i (.code c :: k)=exitTo i k:=nrfl rfl
theorem PT (i:Nat) (c:Code) (k:List Item):exitTo i (.inLoop c :: k)=exitTo i k:=nrfl rfl
@[congr] theorem exitTo_congr {i i':Nat} {k:List Item} (h:i=i'):exitTo i k=exitTo i' k:=by rw [h]
section
variable (P:Program) (fn:Func) (str hcs:List Nat) (b:Nat) (r:AV) (H':List AO)
theorem IJ:(QS P fn str hcs r).P=P:=nrfl rfl
theorem Cc:(QS P fn str hcs r).fn=fn:=nrfl rfl
theorem gy:(QS P fn str hcs r).str=str:=nrfl rfl
theorem gx:(QS P fn str hcs r).hcs=hcs:=nrfl rfl
theorem rD:(Gn P fn str hcs b r H').P=P:=nrfl rfl
theorem VK:(Gn P fn str hcs b r H').fn=fn:=nrfl rfl
theorem gq:(Gn P fn str hcs b r H').str=str:=nrfl rfl
theorem go:(Gn P fn str hcs b r H').hcs=hcs:=nrfl rfl
end
section
variable (P:Program)
theorem Dl {α:Type} {p:Prop} (h:p) (x:Option α):Qd p x=x:=if_pos h
theorem Yc (op:BinOp) (t:TypeId) (i:Nat) (a b:AV):Mt P op t (.tmp i) a b=BE P op t a b:=nrfl rfl
theorem Yb (op:BinOp) (t:TypeId) (k:IntKind) (n:Int) (a b:AV):Mt P op t (.const (.int k n)) a b=BE P op t a b:=nrfl rfl
theorem dN (t:TypeId) (k:IntKind) (x y:Int):BE P .add t (.int k x) (.int k y)=some (.int k (k.wrap (x+y))):=Dl rfl _
theorem dZ (t:TypeId) (k:IntKind) (x y:Int):BE P .sub t (.int k x) (.int k y)=some (.int k (k.wrap (x - y))):=Dl rfl _
theorem dV (t:TypeId) (k:IntKind) (x y:Int):BE P .mul t (.int k x) (.int k y)=some (.int k (k.wrap (x*y))):=Dl rfl _
theorem dX (t:TypeId) (k:IntKind) (x y:Int):BE P .quo t (.int k x) (.int k y)=Qd (y≠0) (some (.int k (k.wrap (x.tdiv y)))):=by simp [BE]
theorem dY (t:TypeId) (k:IntKind) (x y:Int):BE P .rem t (.int k x) (.int k y)=Qd (y≠0) (some (.int k (x.tmod y))):=by simp [BE]
theorem dO (t:TypeId) (k:IntKind) (x y:Int):BE P .eql t (.int k x) (.int k y)=some (.bool (decide (x=y))):=Dl rfl _
theorem dW (t:TypeId) (k:IntKind) (x y:Int):BE P .neq t (.int k x) (.int k y)=some (.bool (!decide (x=y))):=Dl rfl _
theorem dU (t:TypeId) (k:IntKind) (x y:Int):BE P .lss t (.int k x) (.int k y)=some (.bool (decide (x<y))):=Dl rfl _
theorem dT (t:TypeId) (k:IntKind) (x y:Int):BE P .leq t (.int k x) (.int k y)=some (.bool (decide (x≤y))):=Dl rfl _
theorem dS (t:TypeId) (k:IntKind) (x y:Int):BE P .gtr t (.int k x) (.int k y)=some (.bool (decide (y<x))):=Dl rfl _
theorem dP (t:TypeId) (k:IntKind) (x y:Int):BE P .geq t (.int k x) (.int k y)=some (.bool (decide (y≤x))):=Dl rfl _
theorem Yd (t:TypeId) (x y:Bool):BE P .eql t (.bool x) (.bool y)=Qd (Ir P t=true) (some (.bool (x == y))):=nrfl rfl
theorem Ye (t:TypeId) (x y:Bool):BE P .neq t (.bool x) (.bool y)=Qd (Ir P t=true) (some (.bool (!(x == y)))):=nrfl rfl
theorem lx (b:Bool):qX .not (.bool b)=some (.bool !b):=nrfl rfl
theorem lu (k:IntKind) (n:Int):qX .neg (.int k n)=some (.int k (k.wrap (0 - n))):=nrfl rfl
theorem eW (k:IntKind) (x y:Int):Ys (.int k x) (.int k y)=some (.int k (if y<x then y else x)):=Dl rfl _
theorem eU (k:IntKind) (x y:Int):Yr (.int k x) (.int k y)=some (.int k (if x<y then y else x)):=Dl rfl _
end
theorem BT {α:Type} (x:Option α):Qd True x=x:=if_pos trivial
theorem nU (k:IntKind) (n:Int):(AV.int k n).one=true:=nrfl rfl
theorem iP (b:Bool):(AV.bool b).one=true:=nrfl rfl
theorem nW (m:Nat) (f:Nat→AV) (o:Nat):(AV.ptr m f o).one=true:=nrfl rfl
theorem tH (n m:Nat) (f:Nat→AV) (t:Bool):(AV.sl n m f t).one=true:=nrfl rfl
theorem nX (i v o:Nat):(AV.ref i v o).one=true:=nrfl rfl
theorem nV (i v e o n:Nat):(AV.osl i v e o n).one=true:=nrfl rfl
theorem Uu (g:FuncId) (l:List AV):(AV.fn g l).one=true:=nrfl rfl
theorem YN (l:List AV):(AV.agg l).cells=l:=nrfl rfl
theorem YO (k:IntKind) (n:Int):AV.cells (.int k n)=[.int k n]:=nrfl rfl
theorem aZ (k:IntKind) (n:Int):AV.loose (.int k n)=.int k n:=nrfl rfl
theorem TM (b:Bool):AV.cells (.bool b)=[.bool b]:=nrfl rfl
theorem Um (b:Bool):AV.loose (.bool b)=.bool b:=nrfl rfl
theorem YQ (m:Nat) (f:Nat→AV) (o:Nat):AV.cells (.ptr m f o)=[.ptr m f o]:=nrfl rfl
theorem fy (n m:Nat) (f:Nat→AV) (t:Bool):AV.cells (.sl n m f t)=[.sl n m f t]:=nrfl rfl
theorem iu (n m:Nat) (f:Nat→AV) (t:Bool):AV.loose (.sl n m f t)=.sl n m f false:=nrfl rfl
theorem YR (i v o:Nat):AV.cells (.ref i v o)=[.ref i v o]:=nrfl rfl
theorem YP (i v e o n:Nat):AV.cells (.osl i v e o n)=[.osl i v e o n]:=nrfl rfl
theorem bc (i v e o n:Nat):AV.loose (.osl i v e o n)=.osl i v e o n:=nrfl rfl
theorem YF (k:IntKind) (n:Int):AV.boxed (.int k n)=.int k n:=nrfl rfl
theorem TJ (b:Bool):AV.boxed (.bool b)=.bool b:=nrfl rfl
theorem YH (m:Nat) (f:Nat→AV) (o:Nat):AV.boxed (.ptr m f o)=.ptr m f o:=nrfl rfl
theorem YI (i v o:Nat):AV.boxed (.ref i v o)=.ref i v o:=nrfl rfl
theorem YG (i v e o n:Nat):AV.boxed (.osl i v e o n)=.osl i v e o n:=nrfl rfl
theorem YJ (n m:Nat) (f:Nat→AV):AV.boxed (.sl n m f false)=.sl n m f false:=nrfl rfl
theorem YK (n m:Nat) (f:Nat→AV):AV.boxed (.sl n m f true)=.sl n m f (n == 0):=nrfl rfl
theorem BU {P:Program} {fn:Func} {str hcs:List Nat} {r:AV} {s:AS} {t:Nat} (hr:fn.results=#[.tmp t]) (h:JH s.h (s.get t) r):RetOk (QS P fn str hcs r) s :=
 ⟨s.get t,by simp [KQ,Cc,hr,J6,Jj,ZD],h⟩
theorem jv {P:Program} {fn:Func} {str hcs:List Nat} {r:AV} {s:AS} {t u:Nat} (hr:fn.results=#[.tmp t,.tmp u]) (h:JH s.h (.tup [s.get t,s.get u]) r):RetOk (QS P fn str hcs r) s :=
 ⟨.tup [s.get t,s.get u],by simp [KQ,Cc,hr,J6,Jj,ZD],h⟩
theorem Ll {P:Program} {fn:Func} {str hcs:List Nat} {b:Nat} {r:AV} {H:List AO} {s:AS} {t:Nat} (hr:fn.results=#[.tmp t]) (h:s.get t=r) (hH:s.h=H):RetOk (Gn P fn str hcs b r H) s :=
 ⟨s.get t,by simp [KQ,VK,hr,J6,Jj,ZD],h,hH⟩
theorem QE {H:List AO} {a b:AV} (h:Settled b) (he:a=b):JH H a b:=by subst he; exact h.sees H
theorem FR {α:Type} {e:α→AV} {d:α} {l:List α} {H:List AO} {id ver n off:Nat} (he:∀ a,Settled (e a)) (ho:H[id]?=some (.row ver n (Qb e d l))∨H[id]?=some (.con ver n (Qb e d l))) (hn:l.length≤n) (hoff:off=0) :
  JH H (.osl id ver 1 off l.length) (Qn e d l):=by
 subst hoff
 exact Jk ho (by omega) (by omega) fun j _=>by rw [Nat.zero_add]; exact (he _).sees H
theorem NE {l:List Int} {H:List AO} {id ver n:Nat} (ho:H[id]?=some (.row ver n (Qb I 0 l))) (hn:l.length≤n):JH H (.osl id ver 1 0 l.length) (X4 l):=FR X9 (.inl ho) hn rfl
theorem ZU {α:Type} {e:α→AV} {d:α} {l:List α} {H:List AO} {a:AV} {id ver n m:Nat} {g:Nat→AV} (he:∀ a,Settled (e a)) (ha:a=.osl id ver 1 0 m) (ho:H[id]?=some (.row ver n g)) (hm:m=l.length) (hg:g=Qb e d l) (hn:l.length≤n):JH H a (Qn e d l):=by
 subst ha; subst hm; subst hg; exact FR he (.inl ho) hn rfl
theorem RS (a:AV):(∀ j,j<1→(Xk [a] j).one=true)=(a.one=true):=by
 apply propext
 constructor
 ·intro h; exact h 0 (by omega)
 ·intro h j hj
  obtain rfl:j=0:=by omega
  exact h
theorem ED (l:List Int) (x:Int):QK l.length (Qb I 0 l) 1 (Xk [.int .i64 x])=Qb I 0 (l ++ [x]):=by
 have:=Ps I 0 l x
 rw [Nat.mul_one,Nat.mul_one] at this
 exact this
theorem Si {c c':Ctx} (hw:c'.w=c.w) (hS:c'.S=c.S) (hγ:c'.γ=c.γ) (hi:∀ id,inf c'.H id=inf c.H id) (hd:∀ id:Nat,c'.H[id]?=some AO.dead↔c.H[id]?=some AO.dead)
  (hm:∀ (id:Nat) k g,c.H[id]?=some (AO.map k g)→c'.H[id]?=some (AO.map k g)) {v:Value} {a:AV} (h:Rep c v a):Rep c' v a :=
 h.ext (fun b hb=>by rw [hS]; exact hb) (fun b _=>by rw [hw]) (by
  intro id o ho
  have key:∀ v,inf c.H id=some v→(c'.H[id]?=some .dead∨∃ v',Ab.inf c'.H id=some v'∧(v<v'∨(v'=v∧c'.γ id=c.γ id))) :=
   fun v hv=>.inr ⟨v,by rw [hi]; exact hv,.inr ⟨rfl,by rw [hγ]⟩⟩
  cases o with
  | unborn=>trivial
  | dead=>exact (hd id).2 ho
  | row v _ _=>exact key v (by simp [inf,ho,AO.info])
  | con v _ _=>exact key v (by simp [inf,ho,AO.info])
  | map k g=>exact .inr ⟨⟨k,g,hm id k g ho⟩,by rw [hγ]⟩)
theorem Jn {m:Nat} {s:AS} (id:Nat) {ver n:Nat} {f:Nat→AV} (n':Nat) (g:Nat→AV) (ho:s.h[id]?=some (.row ver n f)) (hn':n'≤n) (hfg:∀ j,j<n'→f j=g j):Sub m s { s with h:=s.h.set id (.row ver n' g) }:=by
 intro N c a hst
 have hH:=hst.heap
 rw [← hH] at ho
 have hlt:=(List.getElem?_eq_some_iff.1 ho).1
 have hat:(c.H.set id (.row ver n' g))[id]?=some (.row ver n' g):=by simp [hlt]
 have hoth:∀ i,i≠id→(c.H.set id (AO.row ver n' g))[i]?=c.H[i]?:=fun i hi=>List.getElem?_set_ne (Ne.symm hi)
 let c':Ctx:=⟨c.w,c.S,c.γ,c.H.set id (.row ver n' g)⟩
 have hinf:∀ i,inf c'.H i=inf c.H i:=fun i=>by
  by_cases hi:i=id
  ·subst hi; simp [inf,c',hat,ho,AO.info]
  ·simp [inf,c',hoth i hi]
 have hdead:∀ i:Nat,c'.H[i]?=some AO.dead↔c.H[i]?=some AO.dead:=fun i=>by
  by_cases hi:i=id
  ·subst hi; simp [c',hat,ho]
  ·simp [c',hoth i hi]
 have hmap:∀ (i:Nat) k q,c.H[i]?=some (AO.map k q)↔c'.H[i]?=some (AO.map k q):=fun i k q=>by
  by_cases hi:i=id
  ·subst hi; simp [c',hat,ho]
  ·simp [c',hoth i hi]
 have hrep:∀ {v a},Rep c v a→Rep c' v a:=fun hv=>Si (c:=c) (c':=c') rfl rfl rfl hinf hdead (fun i k q=>(hmap i k q).1) hv
 have howns:∀ b,Z2 c' b→Z2 c b:=by
  rintro b ⟨i,o,sz,hoi,hown,hg⟩
  by_cases hi:i=id
  ·subst hi; exact ⟨i,_,sz,ho,rfl,hg⟩
  ·exact ⟨i,o,sz,by rw [← hoth i hi]; exact hoi,hown,hg⟩
 have hext:Ext c c':=by
  refine ⟨?_,fun b h=>h,fun b h=>.inl h,fun b h=>.inr (howns b h),fun _ _ _=>rfl,Nat.le_refl _,rfl,rfl,rfl⟩
  intro i o hoi
  have key:∀ v,inf c.H i=some v→(c'.H[i]?=some .dead∨∃ v',Ab.inf c'.H i=some v'∧(v<v'∨(v'=v∧c'.γ i=c.γ i))) :=
   fun v hv=>.inr ⟨v,by rw [hinf]; exact hv,.inr ⟨rfl,rfl⟩⟩
  cases o with
  | unborn=>trivial
  | dead=>exact (hdead i).2 hoi
  | row v _ _=>exact key v (by simp [inf,hoi,AO.info])
  | con v _ _=>exact key v (by simp [inf,hoi,AO.info])
  | map k q=>exact .inr ⟨⟨k,q,(hmap i k q).1 hoi⟩,rfl⟩
 refine ⟨c',rfl,hext.toB m,hst.size,hst.defers,fun i=>hrep (hst.slots i),by simp [c',hH],?_⟩
 refine ⟨?_,?_,?_,?_,hst.hrel.bound⟩
 ·intro i v k q hoi
  by_cases hi:i=id
  ·subst hi
   simp only [c'] at hoi
   rw [hat] at hoi; cases hoi
   rcases hst.hrel.row i ver n f ho with h | ⟨b,sz,cs,el,h1,h2,h3,h4,h5,h6⟩
   ·exact .inl ⟨h.1,by omega⟩
   ·exact .inr ⟨b,sz,cs,el,h1,h2,h3,by omega,h5,fun j hj=>by rw [← hfg j hj]; exact hrep (h6 j (by omega))⟩
  ·simp only [c'] at hoi
   rw [hoth i hi] at hoi
   rcases hst.hrel.row i v k q hoi with h | ⟨b,sz,cs,el,h1,h2,h3,h4,h5,h6⟩
   ·exact .inl h
   ·exact .inr ⟨b,sz,cs,el,h1,h2,h3,h4,h5,fun j hj=>hrep (h6 j hj)⟩
 ·intro i v k q hoi
  by_cases hi:i=id
  ·subst hi; simp only [c'] at hoi; rw [hat] at hoi; cases hoi
  ·simp only [c'] at hoi
   rw [hoth i hi] at hoi
   rcases hst.hrel.con i v k q hoi with h | ⟨b,sz,cs,el,fr,h1,h2,h3,h4,h5,h6⟩
   ·exact .inl h
   ·exact .inr ⟨b,sz,cs,el,fr,h1,h2,h3,h4,h5,fun j hj=>hrep (h6 j hj)⟩
 ·intro i k q hoi
  obtain ⟨b,sz,es,cl,h1,h2,h3,h4⟩:=hst.hrel.map i k q ((hmap i k q).2 hoi)
  exact ⟨b,sz,es,cl,h1,h2,h3,h4.ext fun v a hv=>hrep hv⟩
 ·intro i i' o o' b sz sz' hoi hoi' h1 h2 hg hg'
  have key:∀ (i:Nat) o,c'.H[i]?=some o→o.owned=true→∃ o2:AO,c.H[i]?=some o2∧o2.owned=true:=by
   intro i o hoi h
   by_cases hi:i=id
   ·subst hi; exact ⟨_,ho,rfl⟩
   ·exact ⟨o,by rw [← hoth i hi]; exact hoi,h⟩
  obtain ⟨o2,k1,k2⟩:=key i o hoi h1
  obtain ⟨o3,k3,k4⟩:=key i' o' hoi' h2
  exact hst.hrel.inj _ _ _ _ _ _ _ k1 k3 k2 k4 hg hg'
def xy (n0:Nat) (hid:List Nat) (sl:List AV) (tm:List (Nat×AV)) (h:List AO):AS:=⟨n0,hid,sl,tm,h⟩
def Bb (s:AS):AS:=s
theorem nK (n0:Nat) (hid:List Nat) (sl:List AV) (tm:List (Nat×AV)) (h:List AO):Bb ⟨n0,hid,sl,tm,h⟩=xy n0 hid sl tm h:=nrfl rfl
def Qv (s:AS) (K:AS→Prop):Prop:=K s
@[congr] theorem normS_congr {s s':AS} {K:AS→Prop} (h:s=s'):Qv s K=Qv s' K:=by rw [h]
theorem RL (n0:Nat) (hid:List Nat) (sl:List AV) (tm:List (Nat×AV)) (h:List AO) (K:AS→Prop):Qv (xy n0 hid sl tm h) K=K ⟨n0,hid,sl,tm,h⟩:=nrfl rfl
section
variable (X:Env) (n:Nat) (k:List Item) (s:AS)
theorem Td (id:Nat) (ops:List Oper):vc X (n+1) (.code (.region id ops.toArray false) :: k) s=(Qv (Bb s.clr) fun s=>Xs X n ⟨ops.toArray,Hr X.str id,true,none,0,0⟩ ops k s):=nrfl rfl
theorem dE (id:Nat) (ops:List Oper):vc X (n+1) (.code (.region id ops.toArray true) :: k) s =
 (Qv (Bb (s.frz (Ej X.str id))) fun s=>Qv (Bb (IH (X.hcs.contains id) ops.toArray s)) fun s'=>Xs X n ⟨ops.toArray,Hr X.str id,X.hcs.contains id,some s.h.length,0,s.h.length⟩ ops k s'):=nrfl rfl
theorem nz:s.frz []=s:=nrfl rfl
theorem gY (i:Nat) (l:List Nat):s.frz (i :: l)=(ny s (s.get i)).frz l:=nrfl rfl
theorem gV (id ver off:Nat):ny s (.ref id ver off)=aJ s id s.h[id]?:=nrfl rfl
theorem gX (n0:Nat) (hid:List Nat) (sl:List AV) (tm:List (Nat×AV)) (h:List AO) (id ver n:Nat) (f:Nat→AV):aJ ⟨n0,hid,sl,tm,h⟩ id (some (.row ver n f))=⟨n0,hid,sl,tm,h.set id (.con ver n f)⟩:=nrfl rfl
theorem gW (n0:Nat) (hid:List Nat) (sl:List AV) (tm:List (Nat×AV)) (h:List AO) (id ver n:Nat) (f:Nat→AV):aJ ⟨n0,hid,sl,tm,h⟩ id (some (.con ver n f))=⟨n0,hid,sl,tm,h⟩:=nrfl rfl
theorem aI (id:Nat):Ej [] id=[]:=nrfl rfl
theorem Ud (n:Nat) (l:List Nat) (id:Nat):Ej (n :: l) id=if n / 10000000=id+1 then n % 10000000 :: Ej l id else Ej l id:=nrfl rfl
variable (all:Array Oper) (st:Nat→Bool) (hc:Bool) (bs:Option Nat) (i nx:Nat) (os:List Oper) (d:Option Nat) (t:TypeId) (p:String) (af:Array Edge) (g:Option (Nat×Bool))
theorem Tb (op:Op) (j:Nat):Xs X (n+1) ⟨all,st,hc,bs,i,nx⟩ (⟨d,op,t,p,af,some (j,true)⟩ :: os) k s =
 mv (AL all j) fun e=>kI (s.get e) (Qv (Bb (s.fix e (.bool true))) fun s=>Q4 X n ⟨all,st,hc,bs,i,nx⟩ ⟨d,op,t,p,af,some (j,true)⟩ os k s)
  (Qv (Bb ((s.fix e (.bool false)).putO d XY)) fun s=>Xs X n (Md.next ⟨all,st,hc,bs,i,nx⟩ ⟨d,op,t,p,af,some (j,true)⟩) os k s)
  (Qv (Bb (s.putO d XY)) fun s=>Xs X n (Md.next ⟨all,st,hc,bs,i,nx⟩ ⟨d,op,t,p,af,some (j,true)⟩) os k s):=dd X n k s all st hc bs i nx os d op t p af j
theorem Ta (op:Op) (j:Nat):Xs X (n+1) ⟨all,st,hc,bs,i,nx⟩ (⟨d,op,t,p,af,some (j,false)⟩ :: os) k s =
 mv (AL all j) fun e=>kI (s.get e) (Qv (Bb ((s.fix e (.bool true)).putO d XY)) fun s=>Xs X n (Md.next ⟨all,st,hc,bs,i,nx⟩ ⟨d,op,t,p,af,some (j,false)⟩) os k s)
  (Qv (Bb (s.fix e (.bool false))) fun s=>Q4 X n ⟨all,st,hc,bs,i,nx⟩ ⟨d,op,t,p,af,some (j,false)⟩ os k s)
  (Qv (Bb (s.putO d XY)) fun s=>Xs X n (Md.next ⟨all,st,hc,bs,i,nx⟩ ⟨d,op,t,p,af,some (j,false)⟩) os k s):=dc X n k s all st hc bs i nx os d op t p af j
theorem T9 (M:Md) (f:Operand) (args:Array Operand) (ts:Array TypeId) :
 Q4 X (n+1) M ⟨d,.call { callee:=.value f,args:=args,argTypes:=ts },t,p,af,g⟩ os k s =
  pu X M ⟨d,.call { callee:=.value f,args:=args,argTypes:=ts },t,p,af,g⟩
   (fun s'=>Qv (Bb s') fun s'=>Xs X n (M.next ⟨d,.call { callee:=.value f,args:=args,argTypes:=ts },t,p,af,g⟩) os k s') .mk (s.ev f) (args.toList.map s.ev) s:=nrfl rfl
theorem dG:vc X 0 k s=WZ X k .mk s:=nrfl (by unfold vc; rfl)
theorem kY:vc X (n+1) (.code .ret :: k) s=wP X .mk s:=nrfl rfl
theorem kX:vc X (n+1) [] s=wO X .mk s:=nrfl rfl
theorem dF (b:Code):vc X (n+1) (.code (.loop b) :: k) s=WZ X (.code (.loop b) :: k) .mk s:=nrfl rfl
theorem Tc (b:Code):vc X (n+1) (.inLoop b :: k) s=WZ X (.inLoop b :: k) .mk s:=nrfl rfl
theorem dC (x y z:Operand):Q4 X (n+1) ⟨all,st,hc,bs,i,nx⟩ ⟨d,.pick x y z,t,p,af,g⟩ os k s =
  tI (s.ev x) (Qv (Bb (s.putO d (s.ev y))) fun s=>Xs X n ⟨all,st,hc,bs,i+1,nx⟩ os k s) (Qv (Bb (s.putO d (s.ev z))) fun s=>Xs X n ⟨all,st,hc,bs,i+1,nx⟩ os k s):=by
 rw [iW]; rfl
theorem P8 (x:Operand) (j:Nat):Q4 X (n+1) ⟨all,st,hc,bs,i,nx⟩ ⟨d,.extract x j,t,p,af,g⟩ os k s=kM (s.ev x) j fun v=>(Qv (Bb (s.putO d v)) fun s=>Xs X n ⟨all,st,hc,bs,i+1,nx⟩ os k s):=by
 rw [RX]; rfl
theorem dz (x:Operand):Q4 X (n+1) ⟨all,st,hc,bs,i,nx⟩ ⟨d,.move x,t,p,af,g⟩ os k s=(Qv (Bb (s.putO d (s.ev x))) fun s=>Xs X n ⟨all,st,hc,bs,i+1,nx⟩ os k s):=by
 first | (rw [Wc]; rfl) | rw [Wc]
theorem T7 (x:Operand):Q4 X (n+1) ⟨all,st,hc,bs,i,nx⟩ ⟨d,.assign x,t,p,af,g⟩ os k s=(Qv (Bb (s.putO d (s.ev x))) fun s=>Xs X n ⟨all,st,hc,bs,i+1,nx⟩ os k s):=by
 first | (rw [Nl]; rfl) | rw [Nl]
theorem dp (u:TypeId) (x:Operand):Q4 X (n+1) ⟨all,st,hc,bs,i,nx⟩ ⟨d,.load u x,t,p,af,g⟩ os k s=XN (JK X.P (st i) u (s.ev x) s.h) fun v=>(Qv (Bb (s.putO d v)) fun s=>Xs X n ⟨all,st,hc,bs,i+1,nx⟩ os k s):=by
 first | (rw [Wa]; rfl) | rw [Wa]
theorem kS (o:BinOp) (u u':TypeId) (x y:Operand):Q4 X (n+1) ⟨all,st,hc,bs,i,nx⟩ ⟨d,.binOp o u x y u',t,p,af,g⟩ os k s=XN (Mt X.P o u y (s.ev x) (s.ev y)) fun v=>(Qv (Bb (s.putO d v)) fun s=>Xs X n ⟨all,st,hc,bs,i+1,nx⟩ os k s):=by
 first | (rw [iR]; rfl) | rw [iR]
theorem qM (o:UnOp) (u:TypeId) (x:Operand):Q4 X (n+1) ⟨all,st,hc,bs,i,nx⟩ ⟨d,.unOp o u x,t,p,af,g⟩ os k s=XN (qX o (s.ev x)) fun v=>(Qv (Bb (s.putO d v)) fun s=>Xs X n ⟨all,st,hc,bs,i+1,nx⟩ os k s):=by
 first | (rw [q7]; rfl) | rw [q7]
theorem dm (u u':TypeId) (x:Operand):Q4 X (n+1) ⟨all,st,hc,bs,i,nx⟩ ⟨d,.convert u u' x,t,p,af,g⟩ os k s=XN (Mu X.P u u' (s.ev x)) fun v=>(Qv (Bb (s.putO d v)) fun s=>Xs X n ⟨all,st,hc,bs,i+1,nx⟩ os k s):=by
 first | (rw [W8]; rfl) | rw [W8]
theorem LS (u:TypeId) (x y:Operand):Q4 X (n+1) ⟨all,st,hc,bs,i,nx⟩ ⟨d,.indexAddr u x y,t,p,af,g⟩ os k s=XN (Ev X.P u (s.ev x) (s.ev y)) fun v=>(Qv (Bb (s.putO d v)) fun s=>Xs X n ⟨all,st,hc,bs,i+1,nx⟩ os k s):=by
 first | (rw [FI]; rfl) | rw [FI]
theorem dD (u:TypeId) (x:Operand):Q4 X (n+1) ⟨all,st,hc,bs,i,nx⟩ ⟨d,.sliceToArrayPointer u x,t,p,af,g⟩ os k s=XN (MA X.P u (s.ev x)) fun v=>(Qv (Bb (s.putO d v)) fun s=>Xs X n ⟨all,st,hc,bs,i+1,nx⟩ os k s):=by
 first | (rw [Wd]; rfl) | rw [Wd]
theorem LR (u:TypeId) (x:Operand) (j:Nat):Q4 X (n+1) ⟨all,st,hc,bs,i,nx⟩ ⟨d,.fieldAddr u x j,t,p,af,g⟩ os k s=XN (DK X.P u (s.ev x) j) fun v=>(Qv (Bb (s.putO d v)) fun s=>Xs X n ⟨all,st,hc,bs,i+1,nx⟩ os k s):=by
 first | (rw [FH]; rfl) | rw [FH]
theorem WR (u:TypeId) (ps:Array (Nat×Operand)):Q4 X (n+1) ⟨all,st,hc,bs,i,nx⟩ ⟨d,.build u ps,t,p,af,g⟩ os k s=XN (Ga X.P u (ps.toList.map fun q=>(q.1,s.ev q.2))) fun v=>(Qv (Bb (s.putO d v)) fun s=>Xs X n ⟨all,st,hc,bs,i+1,nx⟩ os k s):=by
 first | (rw [RV]; rfl) | rw [RV]
theorem Ic (u:TypeId) (m:Nat) (ps:Array (Nat×Operand)):Q4 X (n+1) ⟨all,st,hc,bs,i,nx⟩ ⟨d,.buildSlice u m ps,t,p,af,g⟩ os k s=XN (ZY X.P u m (ps.toList.map fun q=>(q.1,s.ev q.2))) fun v=>(Qv (Bb (s.putO d v)) fun s=>Xs X n ⟨all,st,hc,bs,i+1,nx⟩ os k s):=by
 first | (rw [El]; rfl) | rw [El]
theorem WV (u:TypeId) (x y:Operand):Q4 X (n+1) ⟨all,st,hc,bs,i,nx⟩ ⟨d,.store u x y,t,p,af,g⟩ os k s=XN (AE X.P (st i) u (s.ev x) (s.ev y) s.h) fun h'=>(Qv (Bb (({ s with h:=h' }:AS).putO d XY)) fun s=>Xs X n ⟨all,st,hc,bs,i+1,nx⟩ os k s):=by
 first | (rw [S4]; rfl) | rw [S4]
theorem NN (x:Operand):Q4 X (n+1) ⟨all,st,hc,bs,i,nx⟩ ⟨d,.nilCheck x,t,p,af,g⟩ os k s=((s.ev x).isPtr=true∧(Qv (Bb (s.putO d (s.ev x))) fun s=>Xs X n ⟨all,st,hc,bs,i+1,nx⟩ os k s)):=by
 first | (rw [Hg]; rfl) | rw [Hg]
theorem WU (u:TypeId) (x:Operand) (lo hi:Option Operand):Q4 X (n+1) ⟨all,st,hc,bs,i,nx⟩ ⟨d,.slice u x lo hi none,t,p,af,g⟩ os k s =
  XN (CU X.P u (s.ev x) (lo.map s.ev) (hi.map s.ev) none) fun v=>(Qv (Bb (s.putO d v)) fun s=>Xs X n ⟨all,st,hc,bs,i+1,nx⟩ os k s):=by
 first | (rw [S3]; rfl) | rw [S3]
theorem T8 (u:TypeId) (x:Operand) (lo:Option Operand) (hi mx:Operand):Q4 X (n+1) ⟨all,st,hc,bs,i,nx⟩ ⟨d,.slice u x lo (some hi) (some mx),t,p,af,g⟩ os k s =
  XN (CU X.P u (s.ev x) (lo.map s.ev) (some (s.ev hi)) (some (s.ev mx))) fun v=>(Qv (Bb (s.putO d v)) fun s=>Xs X n ⟨all,st,hc,bs,i+1,nx⟩ os k s):=by
 first | (rw [Nm]; rfl) | rw [Nm]
theorem NM (f:FuncId) (caps:Array Operand):Q4 X (n+1) ⟨all,st,hc,bs,i,nx⟩ ⟨d,.makeFunc (.func f) #[] caps,t,p,af,g⟩ os k s=(Qv (Bb (s.putO d (.fn f (caps.toList.map s.ev)))) fun s=>Xs X n ⟨all,st,hc,bs,i+1,nx⟩ os k s):=by
 first | (rw [He]; rfl) | rw [He]
theorem kU (x:Operand) (u:TypeId):Q4 X (n+1) ⟨all,st,hc,bs,i,nx⟩ ⟨d,.call { callee:=.builtin .len,args:=#[x],argTypes:=#[u] },t,p,af,g⟩ os k s =
  XN (To X.P u (s.ev x)) fun v=>(Qv (Bb (s.putO d v)) fun s=>Xs X n ⟨all,st,hc,bs,i+1,nx⟩ os k s):=by
 first | (rw [iT]; rfl) | rw [iT]
theorem kW (x y:Operand) (us:Array TypeId):Q4 X (n+1) ⟨all,st,hc,bs,i,nx⟩ ⟨d,.call { callee:=.builtin .min,args:=#[x,y],argTypes:=us },t,p,af,g⟩ os k s =
  XN (Ys (s.ev x) (s.ev y)) fun v=>(Qv (Bb (s.putO d v)) fun s=>Xs X n ⟨all,st,hc,bs,i+1,nx⟩ os k s):=by
 first | (rw [iV]; rfl) | rw [iV]
theorem kV (x y:Operand) (us:Array TypeId):Q4 X (n+1) ⟨all,st,hc,bs,i,nx⟩ ⟨d,.call { callee:=.builtin .max,args:=#[x,y],argTypes:=us },t,p,af,g⟩ os k s =
  XN (Yr (s.ev x) (s.ev y)) fun v=>(Qv (Bb (s.putO d v)) fun s=>Xs X n ⟨all,st,hc,bs,i+1,nx⟩ os k s):=by
 first | (rw [iU]; rfl) | rw [iU]
theorem T6 (x y:Operand) (u:TypeId):Q4 X (n+1) ⟨all,st,hc,bs,i,nx⟩ ⟨d,.call { callee:=.builtin .append,args:=#[x,y],argTypes:=#[u,u] },t,p,af,g⟩ os k s =
  XN (Ke X.P u (s.ev x) (s.ev y) s.h) fun r=>(Qv (Bb (({ s with h:=r.2 }:AS).putO d r.1)) fun s=>Xs X n ⟨all,st,hc,bs,i+1,nx⟩ os k s):=by
 first | (rw [Nk]; rfl) | rw [Nk]
theorem dn (x y:Operand) (u u':TypeId):Q4 X (n+1) ⟨all,st,hc,bs,i,nx⟩ ⟨d,.call { callee:=.builtin .copy,args:=#[x,y],argTypes:=#[u,u'] },t,p,af,g⟩ os k s =
  XN (Ee X.P u (s.ev x) (s.ev y) s.h) fun r=>(Qv (Bb (({ s with h:=r.2 }:AS).putO d r.1)) fun s=>Xs X n ⟨all,st,hc,bs,i+1,nx⟩ os k s):=by
 first | (rw [W9]; rfl) | rw [W9]
theorem WS (x:Operand) (u:TypeId):Q4 X (n+1) ⟨all,st,hc,bs,i,nx⟩ ⟨d,.call { callee:=.builtin .clear,args:=#[x],argTypes:=#[u] },t,p,af,g⟩ os k s =
  XN (Bt X.P u (s.ev x) s.h) fun r=>(Qv (Bb (({ s with h:=r.2 }:AS).putO d r.1)) fun s=>Xs X n ⟨all,st,hc,bs,i+1,nx⟩ os k s):=by
 first | (rw [RW]; rfl) | rw [RW]
theorem WQ (u:TypeId):Q4 X (n+1) ⟨all,st,hc,none,i,nx⟩ ⟨d,.alloc u,t,p,af,g⟩ os k s =
  XN (ZI X.P none u s.h) fun r=>(Qv (Bb (({ s with h:=r.2 }:AS).putO d r.1)) fun s=>Xs X n ⟨all,st,hc,none,i+1,nx⟩ os k s):=by
 first | (rw [RU]; rfl) | rw [RU]
theorem kT (u:TypeId) (x:Operand):Q4 X (n+1) ⟨all,st,hc,none,i,nx⟩ ⟨d,.box u x,t,p,af,g⟩ os k s =
  XN (LW none (s.ev x) s.h) fun r=>(Qv (Bb (({ s with h:=r.2 }:AS).putO d r.1)) fun s=>Xs X n ⟨all,st,hc,none,i+1,nx⟩ os k s):=by
 first | (rw [iS]; rfl) | rw [iS]
theorem dw (u:TypeId) (x y:Operand):Q4 X (n+1) ⟨all,st,hc,none,i,nx⟩ ⟨d,.makeSlice u x y,t,p,af,g⟩ os k s =
  XN (Bd X.P none u (s.ev x) (s.ev y) s.h) fun r=>(Qv (Bb (({ s with h:=r.2 }:AS).putO d r.1)) fun s=>Xs X n ⟨all,st,hc,none,i+1,nx⟩ os k s):=by
 first | (rw [Wb]; rfl) | rw [Wb]
variable (b:Nat)
theorem T5 (u:TypeId):Q4 X (n+1) ⟨all,st,hc,some b,i,nx⟩ ⟨d,.alloc u,t,p,af,g⟩ os k s =
  (s.h[nx]?=some .unborn∧XN (ZI X.P (some nx) u s.h) fun r=>(Qv (Bb (({ s with h:=r.2 }:AS).putO d r.1)) fun s=>Xs X n ⟨all,st,hc,some b,i+1,nx+1⟩ os k s)):=by
 first | (rw [Nj]; rfl) | rw [Nj]
theorem WT (u:TypeId) (x y:Operand):Q4 X (n+1) ⟨all,st,hc,some b,i,nx⟩ ⟨d,.makeSlice u x y,t,p,af,g⟩ os k s =
  (s.h[nx]?=some .unborn∧XN (Bd X.P (some nx) u (s.ev x) (s.ev y) s.h) fun r=>(Qv (Bb (({ s with h:=r.2 }:AS).putO d r.1)) fun s=>Xs X n ⟨all,st,hc,some b,i+1,nx+1⟩ os k s)):=by
 first | (rw [RZ]; rfl) | rw [RZ]
end
theorem sk (l:List AV) (j:Nat):Xk l j=l.getD j .any:=nrfl rfl
theorem bI (a:AV):(∀ j,j<1→(([a]:List AV).getD j .any).one=true)=(a.one=true):=RS a
theorem kG (a:AV):F7 [a]=fun _=>a:=nrfl rfl
theorem Je {X:Env} (n:Nat) {k:List Item} {s:AS} (h:Qv (Bb s) fun s=>vc X n k s):Run X k s:=kl n h
end
end Go.Ab
