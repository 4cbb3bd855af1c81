/- A layer of abstract values and heaps over the model; what is proved here is that its steps and contracts are sound, for every program. -/
import Derived.Test.YtefjhgcndhepeaaGreatAb2
set_option linter.unusedSimpArgs false
set_option linter.unusedVariables false
namespace Go.Ab
open Go Go.RowKit
noncomputable section
def X2f (P:Program) (fn:Func) (str hcs:List Nat) (r:AV):Env:=⟨P,fn,str,hcs,0,none,[],none,fun v H=>X4B H v r⟩
@[simp] theorem resX_P (P:Program) (fn:Func) (str hcs:List Nat) (r:AV) (s:AS):Xrz (X2f P fn str hcs r) s=X7L P fn s:=rfl
def AS.start (n0:Nat) (hid:List Nat) (args:List AV) (H:List AO):AS:=⟨n0,hid,args ++ List.replicate (n0 - args.length) .any,[],H⟩
theorem Xqi {N n0:Nat} {hid:List Nat} {args:List AV} {c:Ctx} {vs:Array Value} (hr:HRel c) (hv:RepL c vs args) (hlen:args.length≤N) :
  St N c { tmps:=vs ++ Array.replicate (N - vs.size) undef,defers:=[] } (AS.start n0 hid args c.H):=by
 refine ⟨by simp; have:=hv.1; omega,rfl,fun i=>?_,rfl,hr⟩
 unfold AS.get AS.start
 simp only
 split
 ·by_cases hi:i<args.length
  ·have e1:(args ++ List.replicate (n0 - args.length) AV.any).getD i .any=args.getD i .any:=by
    simp [List.getD_eq_getElem?_getD,List.getElem?_append_left hi]
   have e2:(vs ++ Array.replicate (N - vs.size) undef).getD i undef=vs.getD i undef:=by
    simp [Array.getD_eq_getD_getElem?,Array.getElem?_append_left (show i<vs.size by rw [hv.1]; exact hi)]
   rw [e1,e2]; exact hv.2 i hi
  ·have e1:(args ++ List.replicate (n0 - args.length) AV.any).getD i .any=.any:=by
    rw [List.getD_eq_getElem?_getD,List.getElem?_append_right (by omega),List.getElem?_replicate]
    split <;> rfl
   rw [e1]; exact .any _
 ·exact .any _
theorem X7g {X:Env} {f:FuncId} {body:Code} (hf:X.P.funcs[f]?=some X.fn) (hb:X.fn.body=some body) (hm:X.P.follows .mixedOrders=true) (hok:X1y X.fn.ntmps X.str X.hcs body=true) (hn:X.rnd=none)
  {c:Ctx} {vs:Array Value} {args:List AV} (hr:HRel c) (hv:RepL c vs args) (hlen:args.length≤X.fn.ntmps) {n0:Nat} {hid:List Nat} (h:Run X [.code body] (AS.start n0 hid args c.H)) (htok:∀ p∈X.tok,TokOk c p∧p.ce.H.length≤X.base) (hout:∀ l r r1,X.out=some (l,r,r1)→Kept c l (.loop r))
  {R:Ending→World→Prop} (hR:∀ v r c',Rep c' v r→HRel c'→XrT X c c'→X.Q r c'.H→R (.returned v) c'.w):Calls X.P f vs c.w R:=by
 intro cs
 let b:Frame:={ (default:Frame) with fn:=f,kind:=.normal,roundOf:=none }
 have henter:Frame.enter X.P f vs .normal=b.atR { ({ tmps:=vs ++ Array.replicate (X.fn.ntmps - vs.size) undef,defers:=[] }:Act) with defers:=[] } [.code body]:=by
  simp [Frame.enter,Frame.atR,hf,hb,b]
 obtain ⟨v,fr,r,c',h1,h2,h4,h5,h6,h6',h7⟩:=h hm (by intro i hi; simp at hi; subst hi; exact hok) (by rw [hn]; simp) c c _ [] (Xqi hr hv hlen) ⟨(Ext.refl c).toB _,htok,fun l r e=>(by rw [hn] at e; cases e),trivial,fun l r r1 e _=>hout l r r1 e⟩ b cs hf rfl (by rw [hn]; rfl)
 rw [← henter] at h1
 unfold Fin at h2
 rw [hn] at h2
 exact ⟨.returned v,c'.w,fr,hR v r c' h4 h5 h6 h7,h1,h2.1,h2.2⟩
theorem X4F {X:Env} {f:FuncId} {body:Code} (hf:X.P.funcs[f]?=some X.fn) (hb:X.fn.body=some body) (hm:X.P.follows .mixedOrders=true) (hok:X1y X.fn.ntmps X.str X.hcs body=true) (hn:X.rnd=none)
  {c:Ctx} {vs:Array Value} {args:List AV} (hr:HRel c) (hv:RepL c vs args) (hlen:args.length≤X.fn.ntmps) {n0:Nat} {hid:List Nat} (h:Run X [.code body] (AS.start n0 hid args c.H)) (htok:∀ p∈X.tok,TokOk c p∧p.ce.H.length≤X.base)
  {R:Ending→World→Prop} (hR:∀ v r c',Rep c' v r→HRel c'→ExtB X.base c c'→X.Q r c'.H→R (.returned v) c'.w) (ho:X.out=none:=by rfl):Calls X.P f vs c.w R :=
 X7g hf hb hm hok hn hr hv hlen h htok (fun l r r1 e=>by rw [ho] at e; cases e) fun v r c' h1 h2 h3 h4=>hR v r c' h1 h2 (by rw [X8C ho] at h3; exact h3) h4
theorem PureCall.intro {P:Program} {f:FuncId} {fn:Func} {body:Code} (he:X5X P f) (hf:P.funcs[f]?=some fn) (hb:fn.body=some body) (hm:P.follows .mixedOrders=true) {args:List AV} {r:AV}
  (n0:Nat) (hid str hcs:List Nat) (hok:X1y fn.ntmps str hcs body=true) (hlen:args.length≤fn.ntmps) (h:Run (X2f P fn str hcs r) [.code body] (AS.start n0 hid args [])):PureCall P f args r:=by
 refine ⟨he,fun w S vs hS hv=>?_⟩
 refine X4F (X:=X2f P fn str hcs r) (c:=.bare w S) hf hb hm hok rfl (XlJ hS) hv hlen h (fun p hp=>absurd hp (List.not_mem_nil)) ?_
 intro v r' c' h1 h2 h3 h4
 refine ⟨v,Xnn c',rfl,h4 c' v rfl h2 h1,fun b hb=>hb.elim (h2.bound b) h2.ownLt,?_⟩
 exact ⟨fun id o ho=>by simp [Ctx.bare] at ho,fun b hb=>.inl (h3.smono b hb),fun b hb=>by
   rcases hb with hb | hb
   ·exact h3.snew b hb
   ·exact (h3.onew b hb).imp id id |>.elim (fun h=>.inr (.inl h)) (fun h=>absurd h X6c),
  fun b hb=>absurd hb X6c,fun b hb hn=>h3.same b hb hn,h3.size,h3.os,h3.tape,h3.output⟩
def Xnr (P:Program) (fn:Func) (str hcs:List Nat) (base:Nat) (r:AV) (H':List AO):Env:=⟨P,fn,str,hcs,base,none,[],none,fun v H=>v=r∧H=H'⟩
@[simp] theorem resX_H (P:Program) (fn:Func) (str hcs:List Nat) (b:Nat) (r:AV) (H:List AO) (s:AS):Xrz (Xnr P fn str hcs b r H) s=X7L P fn s:=rfl
theorem HCall.intro {P:Program} {f:FuncId} {fn:Func} {body:Code} (he:X5X P f) (hf:P.funcs[f]?=some fn) (hb:fn.body=some body) (hm:P.follows .mixedOrders=true) {args:List AV} {H H':List AO} {r:AV}
  (n0:Nat) (hid str hcs:List Nat) (hok:X1y fn.ntmps str hcs body=true) (hlen:args.length≤fn.ntmps) (h:Run (Xnr P fn str hcs H.length r H') [.code body] (AS.start n0 hid args H)):HCall P f args H r H':=by
 refine ⟨he,?_⟩
 rintro c vs rfl hr hv
 refine X4F (X:=Xnr P fn str hcs c.H.length r H') hf hb hm hok rfl hr hv hlen h (fun p hp=>absurd hp (List.not_mem_nil)) ?_
 rintro v r' ⟨w',S',γ',H''⟩ h1 h2 h3 ⟨rfl,rfl⟩
 exact ⟨v,S',γ',rfl,h1,h2,h3.toExt (Nat.le_refl _)⟩
def X0p:List AV→List AV→Prop
 | _,[]=>True
 | a :: l,b :: l'=>(b=.any∨a=b)∧X0p l l'
 | [],b :: l'=>b=.any∧X0p [] l'
def X0q (tm:List (Nat×AV)):List (Nat×AV)→Prop
 | []=>True
 | (i,v) :: l=>(v=.any∨X0P tm i=v)∧X0q tm l
theorem X9n:∀ {l l':List AV},X0p l l'→∀ i,l'.getD i .any=.any∨l.getD i .any=l'.getD i .any
 | l,[],_,i=>.inl (by simp)
 | a :: l,b :: l',h,0=>by simpa using h.1
 | a :: l,b :: l',h,i+1=>by simpa using X9n h.2 i
 | [],b :: l',h,0=>.inl (by simpa using h.1)
 | [],b :: l',h,i+1=>by simpa using X9n h.2 i
theorem Xde {tm:List (Nat×AV)}:∀ {l:List (Nat×AV)},X0q tm l→∀ i,X0P l i=.any∨X0P tm i=X0P l i
 | [],_,i=>.inl rfl
 | (j,v) :: l,h,i=>by
  simp only [X0P]
  by_cases hi:i=j
  ·subst hi; simpa using h.1
  ·simp only [hi,if_false]; exact Xde h.2 i
theorem X09 {m:Nat} {s s':AS} (h1:s'.n0=s.n0) (h3:X0p s.sl s'.sl) (h4:X0q s.tm s'.tm) (h5:s.h=s'.h):Sub m s s':=by
 intro N c a hst
 refine ⟨c,rfl,(Ext.refl c).toB m,hst.size,hst.defers,fun i=>?_,by rw [← h5]; exact hst.heap,hst.hrel⟩
 have:=hst.slots i
 unfold AS.get at this ⊢
 rw [h1]
 split
 ·rename_i hi
  simp only [hi,if_true] at this
  rcases X9n h3 i with e | e
  ·rw [e]; exact .any _
  ·rw [← e]; exact this
 ·rename_i hi
  simp only [hi,if_false] at this
  rcases Xde h4 i with e | e
  ·rw [e]; exact .any _
  ·rw [← e]; exact this
def Bel (m:Nat) (a:AV):Prop:=∀ (c:Ctx) v,Rep c v a→Rep ⟨c.w,c.S,c.γ,c.H.take m⟩ v a
theorem X06 {m:Nat} {a:AV} (h:Settled a):Bel m a:=fun c v hv=>Xan (h c v hv) _ _
theorem X99 {H:List AO} {m id:Nat} (h:id<m):inf (H.take m) id=inf H id:=by simp [inf,List.getElem?_take,h]
theorem X8z {H:List AO} {m id ver:Nat} (h:id<m) (hs:stale H id ver):stale (H.take m) id ver:=by
 rcases hs with ⟨v,hi,hlt⟩ | hd
 ·exact .inl ⟨v,by rw [X99 h]; exact hi,hlt⟩
 ·exact .inr (by simp [h,hd])
theorem Xfj {m id ver es off n:Nat} (h:id<m):Bel m (.osl id ver es off n):=fun c v hv=>by
 cases hv with
 | osl _ _ _ _ _ cap b sz hi hg hn hcap hmx=>exact .osl _ _ _ _ _ _ b sz (by rw [← X99 h] at hi; exact hi) hg hn hcap hmx
 | oslz _ _ _ _ a hi=>exact .oslz _ _ _ _ _ (by rw [← X99 h] at hi; exact hi)
 | oslOld _ _ _ _ _ a cap hn hs=>exact .oslOld _ _ _ _ _ _ _ hn (X8z h hs)
 | oslzOld _ _ _ _ a hs=>exact .oslzOld _ _ _ _ _ (X8z h hs)
theorem Xsk {m id ver off:Nat} (h:id<m):Bel m (.ref id ver off):=fun c v hv=>by
 cases hv with
 | ref _ _ _ b sz hi hg=>exact .ref _ _ _ b sz (by rw [← X99 h] at hi; exact hi) hg
 | refOld _ _ _ a hs=>exact .refOld _ _ _ _ (X8z h hs)
theorem Xw0 {m id:Nat} (h:id<m):Bel m (.mp id):=fun c v hv=>by
 cases hv with
 | mp _ b sz k g hi hg=>exact .mp _ b sz k g (by simp [h,hi]) hg
 | mpOld _ r hi=>exact .mpOld _ _ (by simp [h,hi])
theorem Xsj {m:Nat} {l:List AV} (hl:∀ a∈l,Bel m a):Bel m (.agg l):=fun c v hv=>by
 cases hv with
 | agg vs _ hs hr=>exact .agg vs l hs fun j hj=>hl _ (by rw [List.getD_eq_getElem?_getD,List.getElem?_eq_getElem hj]; exact List.getElem_mem _) c _ (hr j hj)
theorem Xsl {m:Nat} {l:List AV} (hl:∀ a∈l,Bel m a):Bel m (.tup l):=fun c v hv=>by
 cases hv with
 | tup vs _ hs hr=>exact .tup vs l hs fun j hj=>hl _ (by rw [List.getD_eq_getElem?_getD,List.getElem?_eq_getElem hj]; exact List.getElem_mem _) c _ (hr j hj)
theorem XvZ {m:Nat} {g:FuncId} {l:List AV} (hl:∀ a∈l,Bel m a):Bel m (.fn g l):=fun c v hv=>by
 cases hv with
 | fn _ vs _ hs hr=>exact .fn g vs l hs fun j hj=>hl _ (by rw [List.getD_eq_getElem?_getD,List.getElem?_eq_getElem hj]; exact List.getElem_mem _) c _ (hr j hj)
def X1j (m:Nat):AO→Prop
 | .row _ n f=>∀ j,j<n→Bel m (f j)
 | .con _ n f=>∀ j,j<n→Bel m (f j)
 | .map _ g=>∀ n a,g n=some a→Bel m a
 | _=>True
theorem X0t {b m:Nat} {s s':AS} (hbm:b≤m) (h1:s'.n0=s.n0) (h3:X0p s.sl s'.sl) (h4:X0q s.tm s'.tm) (h5:s.h.take m=s'.h)
  (h6:∀ a∈s'.sl,Bel m a) (h7:∀ p∈s'.tm,Bel m p.2) (h8:∀ o∈s'.h,X1j m o):Sub b s s':=by
 intro N c a hst
 have hH:c.H=s.h:=hst.heap
 have hget:∀ (i:Nat) (o:AO),(c.H.take m)[i]?=some o→c.H[i]?=some o∧i<m:=by
  intro i o ho
  rw [List.getElem?_take] at ho
  split at ho
  ·exact ⟨ho,by assumption⟩
  ·cases ho
 have hmem:∀ (i:Nat) (o:AO),(c.H.take m)[i]?=some o→X1j m o:=fun i o ho=>h8 o (by rw [← h5,← hH]; exact List.mem_of_getElem? ho)
 refine ⟨⟨c.w,c.S,c.γ,c.H.take m⟩,rfl,?_,hst.size,hst.defers,fun i=>?_,by rw [← h5,hH],?_⟩
 ·refine ⟨?_,fun _ h=>h,fun _ h=>.inl h,?_,fun _ _ _=>rfl,Nat.le_refl _,rfl,rfl,rfl⟩
  ·intro id o hlt ho
   have h0:(c.H.take m)[id]?=some o:=by rw [List.getElem?_take,if_pos (by omega)]; exact ho
   cases o with
   | unborn=>trivial
   | dead=>exact h0
   | row v _ _=>exact .inr ⟨v,by simp [inf,h0,AO.info],.inr ⟨rfl,rfl⟩⟩
   | con v _ _=>exact .inr ⟨v,by simp [inf,h0,AO.info],.inr ⟨rfl,rfl⟩⟩
   | map k g=>exact .inr ⟨⟨k,g,h0⟩,rfl⟩
  ·rintro x ⟨id,o,sz,ho,hown,hg⟩
   exact .inr ⟨id,o,sz,(hget id o ho).1,hown,hg⟩
 ·have:=hst.slots i
  unfold AS.get at this ⊢
  rw [h1]
  split
  ·rename_i hi
   simp only [hi,if_true] at this
   have hb:Bel m (s'.sl.getD i .any):=by
    rw [List.getD_eq_getElem?_getD]
    cases hx:s'.sl[i]? with
    | none=>exact fun _ v _=>.any v
    | some x=>exact h6 _ (List.mem_of_getElem? hx)
   rcases X9n h3 i with e | e
   ·rw [e]; exact .any _
   ·rw [e] at this; exact hb c _ this
  ·rename_i hi
   simp only [hi,if_false] at this
   have hb:Bel m (X0P s'.tm i):=by
    have:∀ l:List (Nat×AV),(∀ p∈l,Bel m p.2)→Bel m (X0P l i):=by
     intro l
     induction l with
     | nil=>exact fun _ _ v _=>.any v
     | cons x l ih =>
      intro hl
      obtain ⟨j,v⟩:=x
      simp only [X0P]
      split
      ·exact hl (j,v) (by simp)
      ·exact ih fun p hp=>hl p (by simp [hp])
    exact this _ h7
   rcases Xde h4 i with e | e
   ·rw [e]; exact .any _
   ·rw [e] at this; exact hb c _ this
 ·refine ⟨?_,?_,?_,?_,hst.hrel.bound⟩
  ·intro id v n f ho
   have hb:=hmem _ _ ho
   rcases hst.hrel.row id v n f (hget _ _ ho).1 with h | ⟨b,sz,cs,el,g1,g2,g3,g4,g5,g6⟩
   ·exact .inl h
   ·exact .inr ⟨b,sz,cs,el,g1,g2,g3,g4,g5,fun j hj=>hb j hj c _ (g6 j hj)⟩
  ·intro id v n f ho
   have hb:=hmem _ _ ho
   rcases hst.hrel.con id v n f (hget _ _ ho).1 with h | ⟨b,sz,cs,el,fr,g1,g2,g3,g4,g5,g6⟩
   ·exact .inl h
   ·exact .inr ⟨b,sz,cs,el,fr,g1,g2,g3,g4,g5,fun j hj=>hb j hj c _ (g6 j hj)⟩
  ·intro id k g ho
   have hb:=hmem _ _ ho
   obtain ⟨b,sz,es,cl,g1,g2,g3,g4⟩:=hst.hrel.map id k g (hget _ _ ho).1
   exact ⟨b,sz,es,cl,g1,g2,g3,g4.keys,g4.uniq,fun n a hn=>let ⟨e,he,hk,hr⟩:=g4.hit n a hn; ⟨e,he,hk,hb n a hn c _ hr⟩,g4.miss⟩
  ·intro i i' o o' b sz sz' ho ho' g1 g2 hg hg'
   exact hst.hrel.inj _ _ _ _ _ _ _ (hget _ _ ho).1 (hget _ _ ho').1 g1 g2 hg hg'
theorem X0d {X:Env} {ι:Type} {body:Code} {k:List Item} {s:AS} (st:ι→AS) (inv:ι→Prop) (μ:ι→Nat) (i0:ι) (h0:inv i0) (hs:Sub X.base s (st i0))
  (round:∀ i,inv i→(∀ j s',inv j→μ j<μ i→Sub X.base s' (st j)→Run X (.inLoop body :: k) s')→Run X (.code body :: .inLoop body :: k) (st i)):Run X (.code (.loop body) :: k) s:=by
 have key:∀ n i,μ i=n→inv i→Run X (.code body :: .inLoop body :: k) (st i):=by
  intro n
  induction n using Nat.strongRecOn with
  | _ n ih =>
   intro i hn hi
   refine round i hi fun j s' hj hlt hsub=>?_
   exact Xjv ((ih (μ j) (by omega) j rfl hj).sub hsub)
 exact XmE ((key _ i0 rfl h0).sub hs)
end
end Go.Ab
namespace Go.Ab
open Go Go.RowKit
noncomputable section
section
variable (X:Env) (n:Nat) (k:List Item) (s:AS)
theorem XxC (a b:Code):vc X (n+1) (.code (.seq a b) :: k) s=vc X n (.code a :: .code b :: k) s:=nrfl rfl
theorem XuN:vc X (n+1) (.code .skip :: k) s=vc X n k s:=nrfl rfl
theorem XqH (l:Nat):vc X (n+1) (.code (.label l) :: k) s=vc X n k s:=nrfl rfl
theorem XqE (i:Nat) (b:Code):vc X (n+1) (.code (.block i b) :: k) s=vc X n (.code b :: .inBlock i :: k) s:=nrfl rfl
theorem XqI (b:Code):vc X (n+1) (.code (.scope b) :: k) s=vc X n (.code b :: .inScope b :: k) s:=nrfl rfl
theorem XjL (i:Nat):vc X (n+1) (.inBlock i :: k) s=vc X n k s:=nrfl rfl
theorem XjM (c:Code):vc X (n+1) (.inScope c :: k) s=vc X n k s:=nrfl rfl
theorem XuM (i:Nat):vc X (n+1) (.code (.exit i) :: k) s=match exitTo i k with | some k'=>vc X n k' s | none=>False:=rfl
theorem XuL (o:Operand) (a b:Code):vc X (n+1) (.code (.cond o a b) :: k) s=match s.ev o with
 | .bool t=>(t=true→vc X n (.code a :: k) s)∧(t=false→vc X n (.code b :: k) s)
 | .abool=>vc X n (.code a :: k) s∧vc X n (.code b :: k) s
 | _=>False:=rfl
variable (all:Array Oper) (st:Nat→Bool) (hc:Bool) (bs:Option Nat) (i nx:Nat) (os:List Oper)
theorem Xnh (M:Md):X0x X (n+1) M [] k s=vc X n k s:=nrfl rfl
theorem XaE (M:Md) (d:Option Nat) (op:Op) (t:TypeId) (p:String) (af:Array Edge) (j:Nat) (want:Bool):X0x X (n+1) M (⟨d,op,t,p,af,some (j,want)⟩ :: os) k s =
  match (M.all[j]?).bind (·.dst) with
  | some e=>match s.get e with
    | .bool b=>(b=true→if want=true then X1P X n M ⟨d,op,t,p,af,some (j,want)⟩ os k (s.fix e (.bool true)) else X0x X n (M.next ⟨d,op,t,p,af,some (j,want)⟩) os k ((s.fix e (.bool true)).putO d X11)) ∧
                 (b=false→if want=false then X1P X n M ⟨d,op,t,p,af,some (j,want)⟩ os k (s.fix e (.bool false)) else X0x X n (M.next ⟨d,op,t,p,af,some (j,want)⟩) os k ((s.fix e (.bool false)).putO d X11))
    | .tup []=>X0x X n (M.next ⟨d,op,t,p,af,some (j,want)⟩) os k (s.putO d X11)
    | _=>False
  | none=>False:=rfl
theorem Xm4 (b:Nat) (o:Oper):Md.next ⟨all,st,hc,some b,i,nx⟩ o=⟨all,st,hc,some b,i+1,if cls hc o.op=2 then nx+1 else nx⟩:=rfl
theorem X2d (M:Md) (o:Oper) (h1:X46 o.op=none) (h2:cls M.hcall o.op≠2) :
 X1P X (n+1) M o os k s=X0S (aop X.P (M.strict M.i) none o.op s.ev s.h) fun r=>X0x X n (M.next o) os k (({ s with h:=r.2 }:AS).putO o.dst r.1):=by
 unfold X1P
 simp only [h1]
 cases M.base with
 | none=>rfl
 | some b=>simp only [h2,if_false]
theorem X4d (o:Oper) (h1:X46 o.op=none) :
 X1P X (n+1) ⟨all,st,hc,none,i,nx⟩ o os k s=X0S (aop X.P (st i) none o.op s.ev s.h) fun r=>X0x X n ⟨all,st,hc,none,i+1,nx⟩ os k (({ s with h:=r.2 }:AS).putO o.dst r.1):=by
 unfold X1P
 simp only [h1]
 rfl
theorem X81 (b:Nat) (o:Oper) (h1:X46 o.op=none) (h2:cls hc o.op=2) :
 X1P X (n+1) ⟨all,st,hc,some b,i,nx⟩ o os k s=(s.h[nx]?=some .unborn∧X0S (aop X.P (st i) (some nx) o.op s.ev s.h) fun r=>X0x X n ⟨all,st,hc,some b,i+1,nx+1⟩ os k (({ s with h:=r.2 }:AS).putO o.dst r.1)):=by
 unfold X1P
 simp only [h1,h2,if_true,Md.next]
end
theorem X6b {α β:Type} (f:α→β) (o:Option α) (K:β→Prop):X0S (o.map f) K=X0S o (fun x=>K (f x)):=by
 unfold X0S
 cases o <;> simp
section
variable (X:Env) (n:Nat) (k:List Item) (s:AS) (all:Array Oper) (st:Nat→Bool) (hc:Bool) (bs:Option Nat) (i nx:Nat) (os:List Oper) (d:Option Nat) (t:TypeId) (p:String) (af:Array Edge) (g:Option (Nat×Bool))
theorem X28 (M:Md) (o:Oper) (h2:cls M.hcall o.op≠2):M.next o={ M with i:=M.i+1 }:=by
 unfold Md.next
 cases M.base with
 | none=>rfl
 | some b=>simp [h2]
theorem XaD (o:Op) (v:AV) (h1:X46 o=none) (h2:cls hc o≠2) (h3:aop X.P (st i) none o s.ev s.h=some (v,s.h)) :
 X1P X (n+1) ⟨all,st,hc,bs,i,nx⟩ ⟨d,o,t,p,af,g⟩ os k s=X0x X n ⟨all,st,hc,bs,i+1,nx⟩ os k (s.putO d v):=by
 rw [X2d (h1:=h1) (h2:=h2),h3,obind_some,X28 (h2:=h2)]
theorem X2x (o:Op) (q:Option AV) (h1:X46 o=none) (h2:cls hc o≠2) (h3:aop X.P (st i) none o s.ev s.h=q.map fun v=>(v,s.h)) :
 X1P X (n+1) ⟨all,st,hc,bs,i,nx⟩ ⟨d,o,t,p,af,g⟩ os k s=X0S q fun v=>X0x X n ⟨all,st,hc,bs,i+1,nx⟩ os k (s.putO d v):=by
 rw [X2d (h1:=h1) (h2:=h2),h3,X6b,X28 (h2:=h2)]
theorem XeS (o:Op) (q:Option (List AO)) (h1:X46 o=none) (h2:cls hc o≠2) (h3:aop X.P (st i) none o s.ev s.h=q.map fun h'=>(X11,h')) :
 X1P X (n+1) ⟨all,st,hc,bs,i,nx⟩ ⟨d,o,t,p,af,g⟩ os k s=X0S q fun h'=>X0x X n ⟨all,st,hc,bs,i+1,nx⟩ os k (({ s with h:=h' }:AS).putO d X11):=by
 rw [X2d (h1:=h1) (h2:=h2),h3,X6b,X28 (h2:=h2)]
theorem Xme (x:Operand):X1P X (n+1) ⟨all,st,hc,bs,i,nx⟩ ⟨d,.move x,t,p,af,g⟩ os k s=X0x X n ⟨all,st,hc,bs,i+1,nx⟩ os k (s.putO d (s.ev x)):=XaD _ _ _ _ _ _ _ _ _ _ _ _ _ _ _ _ _ _ rfl (by simp [cls]) rfl
theorem Xek (x:Operand):X1P X (n+1) ⟨all,st,hc,bs,i,nx⟩ ⟨d,.assign x,t,p,af,g⟩ os k s=X0x X n ⟨all,st,hc,bs,i+1,nx⟩ os k (s.putO d (s.ev x)):=XaD _ _ _ _ _ _ _ _ _ _ _ _ _ _ _ _ _ _ rfl (by simp [cls]) rfl
theorem Xmc (u:TypeId) (x:Operand):X1P X (n+1) ⟨all,st,hc,bs,i,nx⟩ ⟨d,.load u x,t,p,af,g⟩ os k s=X0S (X2O X.P (st i) u (s.ev x) s.h) fun v=>X0x X n ⟨all,st,hc,bs,i+1,nx⟩ os k (s.putO d v):=X2x _ _ _ _ _ _ _ _ _ _ _ _ _ _ _ _ _ _ rfl (by simp [cls]) rfl
theorem Xrs (o:BinOp) (u u':TypeId) (x y:Operand):X1P X (n+1) ⟨all,st,hc,bs,i,nx⟩ ⟨d,.binOp o u x y u',t,p,af,g⟩ os k s=X0S (Xf0 X.P o u y (s.ev x) (s.ev y)) fun v=>X0x X n ⟨all,st,hc,bs,i+1,nx⟩ os k (s.putO d v):=X2x _ _ _ _ _ _ _ _ _ _ _ _ _ _ _ _ _ _ rfl (by simp [cls]) rfl
theorem Xx9 (o:UnOp) (u:TypeId) (x:Operand):X1P X (n+1) ⟨all,st,hc,bs,i,nx⟩ ⟨d,.unOp o u x,t,p,af,g⟩ os k s=X0S (aun o (s.ev x)) fun v=>X0x X n ⟨all,st,hc,bs,i+1,nx⟩ os k (s.putO d v):=X2x _ _ _ _ _ _ _ _ _ _ _ _ _ _ _ _ _ _ rfl (by simp [cls]) rfl
theorem Xma (u u':TypeId) (x:Operand):X1P X (n+1) ⟨all,st,hc,bs,i,nx⟩ ⟨d,.convert u u' x,t,p,af,g⟩ os k s=X0S (Xit X.P u u' (s.ev x)) fun v=>X0x X n ⟨all,st,hc,bs,i+1,nx⟩ os k (s.putO d v):=X2x _ _ _ _ _ _ _ _ _ _ _ _ _ _ _ _ _ _ rfl (by simp [cls]) rfl
theorem X8J (u:TypeId) (x y:Operand):X1P X (n+1) ⟨all,st,hc,bs,i,nx⟩ ⟨d,.indexAddr u x y,t,p,af,g⟩ os k s=X0S (X9w X.P u (s.ev x) (s.ev y)) fun v=>X0x X n ⟨all,st,hc,bs,i+1,nx⟩ os k (s.putO d v):=X2x _ _ _ _ _ _ _ _ _ _ _ _ _ _ _ _ _ _ rfl (by simp [cls]) rfl
theorem Xmf (u:TypeId) (x:Operand):X1P X (n+1) ⟨all,st,hc,bs,i,nx⟩ ⟨d,.sliceToArrayPointer u x,t,p,af,g⟩ os k s=X0S (XiL X.P u (s.ev x)) fun v=>X0x X n ⟨all,st,hc,bs,i+1,nx⟩ os k (s.putO d v):=X2x _ _ _ _ _ _ _ _ _ _ _ _ _ _ _ _ _ _ rfl (by simp [cls]) rfl
theorem Xhw (u:TypeId) (x y:Operand):X1P X (n+1) ⟨all,st,hc,bs,i,nx⟩ ⟨d,.index u x y,t,p,af,g⟩ os k s=X0S (Xv8 X.P u (s.ev x) (s.ev y)) fun v=>X0x X n ⟨all,st,hc,bs,i+1,nx⟩ os k (s.putO d v):=X2x _ _ _ _ _ _ _ _ _ _ _ _ _ _ _ _ _ _ rfl (by simp [cls]) rfl
theorem X8I (u:TypeId) (x:Operand) (j:Nat):X1P X (n+1) ⟨all,st,hc,bs,i,nx⟩ ⟨d,.fieldAddr u x j,t,p,af,g⟩ os k s=X0S (X87 X.P u (s.ev x) j) fun v=>X0x X n ⟨all,st,hc,bs,i+1,nx⟩ os k (s.putO d v):=X2x _ _ _ _ _ _ _ _ _ _ _ _ _ _ _ _ _ _ rfl (by simp [cls]) rfl
theorem Xhv (u:TypeId) (ps:Array (Nat×Operand)):X1P X (n+1) ⟨all,st,hc,bs,i,nx⟩ ⟨d,.build u ps,t,p,af,g⟩ os k s=X0S (Xb0 X.P u (ps.toList.map fun q=>(q.1,s.ev q.2))) fun v=>X0x X n ⟨all,st,hc,bs,i+1,nx⟩ os k (s.putO d v):=X2x _ _ _ _ _ _ _ _ _ _ _ _ _ _ _ _ _ _ rfl (by simp [cls]) rfl
theorem X7z (u:TypeId) (m:Nat) (ps:Array (Nat×Operand)):X1P X (n+1) ⟨all,st,hc,bs,i,nx⟩ ⟨d,.buildSlice u m ps,t,p,af,g⟩ os k s=X0S (X4R X.P u m (ps.toList.map fun q=>(q.1,s.ev q.2))) fun v=>X0x X n ⟨all,st,hc,bs,i+1,nx⟩ os k (s.putO d v):=X2x _ _ _ _ _ _ _ _ _ _ _ _ _ _ _ _ _ _ rfl (by simp [cls]) rfl
theorem Xhz (u:TypeId) (x y:Operand):X1P X (n+1) ⟨all,st,hc,bs,i,nx⟩ ⟨d,.store u x y,t,p,af,g⟩ os k s=X0S (X5Z X.P (st i) u (s.ev x) (s.ev y) s.h) fun h'=>X0x X n ⟨all,st,hc,bs,i+1,nx⟩ os k (({ s with h:=h' }:AS).putO d X11):=XeS _ _ _ _ _ _ _ _ _ _ _ _ _ _ _ _ _ _ rfl (by simp [cls]) rfl
theorem X8K (u:TypeId) (x y z:Operand):X1P X (n+1) ⟨all,st,hc,bs,i,nx⟩ ⟨d,.mapUpdate u x y z,t,p,af,g⟩ os k s=X0S (X2r X.P u (s.ev x) (s.ev y) (s.ev z) s.h) fun h'=>X0x X n ⟨all,st,hc,bs,i+1,nx⟩ os k (({ s with h:=h' }:AS).putO d X11):=XeS _ _ _ _ _ _ _ _ _ _ _ _ _ _ _ _ _ _ rfl (by simp [cls]) rfl
theorem Xel (u:TypeId) (x y:Operand) (b:Bool):X1P X (n+1) ⟨all,st,hc,bs,i,nx⟩ ⟨d,.lookup u x y b,t,p,af,g⟩ os k s=X0S (X4l X.P u (s.ev x) (s.ev y) b s.h) fun v=>X0x X n ⟨all,st,hc,bs,i+1,nx⟩ os k (s.putO d v):=X2x _ _ _ _ _ _ _ _ _ _ _ _ _ _ _ _ _ _ rfl (by simp [cls]) rfl
theorem Xa2 (x:Operand):X1P X (n+1) ⟨all,st,hc,bs,i,nx⟩ ⟨d,.nilCheck x,t,p,af,g⟩ os k s=((s.ev x).isPtr=true∧X0x X n ⟨all,st,hc,bs,i+1,nx⟩ os k (s.putO d (s.ev x))):=by
 rw [X2d (h1:=rfl) (h2:=by simp [cls]),X28 (h2:=by simp [cls])]
 show X0S (oif _ (some (s.ev x,s.h))) _=_
 rw [obind_oif,obind_some]
theorem Xhy (u:TypeId) (x:Operand) (lo hi:Option Operand):X1P X (n+1) ⟨all,st,hc,bs,i,nx⟩ ⟨d,.slice u x lo hi none,t,p,af,g⟩ os k s =
  X0S (X8D X.P u (s.ev x) (lo.map s.ev) (hi.map s.ev) none) fun v=>X0x X n ⟨all,st,hc,bs,i+1,nx⟩ os k (s.putO d v):=by
 rw [X2d (h1:=rfl) (h2:=by simp [cls]),X28 (h2:=by simp [cls])]
 show X0S (oif _ (Option.map _ _)) _=_
 rw [obind_oif,X6b]
 simp
theorem Xem (u:TypeId) (x:Operand) (lo:Option Operand) (hi mx:Operand):X1P X (n+1) ⟨all,st,hc,bs,i,nx⟩ ⟨d,.slice u x lo (some hi) (some mx),t,p,af,g⟩ os k s =
  X0S (X8D X.P u (s.ev x) (lo.map s.ev) (some (s.ev hi)) (some (s.ev mx))) fun v=>X0x X n ⟨all,st,hc,bs,i+1,nx⟩ os k (s.putO d v):=by
 rw [X2d (h1:=rfl) (h2:=by simp [cls]),X28 (h2:=by simp [cls])]
 show X0S (oif _ (Option.map _ _)) _=_
 rw [obind_oif,X6b]
 simp
theorem XtV (x y z:Operand):X1P X (n+1) ⟨all,st,hc,bs,i,nx⟩ ⟨d,.pick x y z,t,p,af,g⟩ os k s=(match s.ev x with
  | .bool true=>X0x X n ⟨all,st,hc,bs,i+1,nx⟩ os k (s.putO d (s.ev y))
  | .bool false=>X0x X n ⟨all,st,hc,bs,i+1,nx⟩ os k (s.putO d (s.ev z))
  | _=>False):=by
 rw [X2d (h1:=rfl) (h2:=by simp [cls]),X28 (h2:=by simp [cls])]
 simp only [aop]
 cases hx:s.ev x with
 | bool b=>cases b <;> simp
 | _=>simp
theorem Xjl (x:Operand) (j:Nat):X1P X (n+1) ⟨all,st,hc,bs,i,nx⟩ ⟨d,.extract x j,t,p,af,g⟩ os k s=(match s.ev x with
  | .tup l=>j<l.length∧X0x X n ⟨all,st,hc,bs,i+1,nx⟩ os k (s.putO d (l.getD j .any))
  | _=>False):=by
 rw [X2d (h1:=rfl) (h2:=by simp [cls]),X28 (h2:=by simp [cls])]
 simp only [aop]
 cases hx:s.ev x <;> simp
theorem Xa1 (f:FuncId) (caps:Array Operand):X1P X (n+1) ⟨all,st,hc,bs,i,nx⟩ ⟨d,.makeFunc (.func f) #[] caps,t,p,af,g⟩ os k s=X0x X n ⟨all,st,hc,bs,i+1,nx⟩ os k (s.putO d (.fn f (caps.toList.map s.ev))):=by
 rw [X2d (h1:=rfl) (h2:=by simp [cls]),X28 (h2:=by simp [cls])]
 show X0S (oif _ _) _=_
 rw [obind_oif,obind_some]
 simp
theorem Xru (x:Operand) (u:TypeId):X1P X (n+1) ⟨all,st,hc,bs,i,nx⟩ ⟨d,.call { callee:=.builtin .len,args:=#[x],argTypes:=#[u] },t,p,af,g⟩ os k s =
  X0S (Xs4 X.P u (s.ev x)) fun v=>X0x X n ⟨all,st,hc,bs,i+1,nx⟩ os k (s.putO d v):=X2x _ _ _ _ _ _ _ _ _ _ _ _ _ _ _ _ _ _ rfl (by simp [cls]) rfl
theorem Xrw (x y:Operand) (us:Array TypeId):X1P X (n+1) ⟨all,st,hc,bs,i,nx⟩ ⟨d,.call { callee:=.builtin .min,args:=#[x,y],argTypes:=us },t,p,af,g⟩ os k s =
  X0S (Xvc (s.ev x) (s.ev y)) fun v=>X0x X n ⟨all,st,hc,bs,i+1,nx⟩ os k (s.putO d v):=X2x _ _ _ _ _ _ _ _ _ _ _ _ _ _ _ _ _ _ rfl (by simp [cls]) rfl
theorem Xrv (x y:Operand) (us:Array TypeId):X1P X (n+1) ⟨all,st,hc,bs,i,nx⟩ ⟨d,.call { callee:=.builtin .max,args:=#[x,y],argTypes:=us },t,p,af,g⟩ os k s =
  X0S (Xvb (s.ev x) (s.ev y)) fun v=>X0x X n ⟨all,st,hc,bs,i+1,nx⟩ os k (s.putO d v):=X2x _ _ _ _ _ _ _ _ _ _ _ _ _ _ _ _ _ _ rfl (by simp [cls]) rfl
theorem Xej (x y:Operand) (u:TypeId):X1P X (n+1) ⟨all,st,hc,bs,i,nx⟩ ⟨d,.call { callee:=.builtin .append,args:=#[x,y],argTypes:=#[u,u] },t,p,af,g⟩ os k s =
  X0S (X31 X.P u (s.ev x) (s.ev y) s.h) fun r=>X0x X n ⟨all,st,hc,bs,i+1,nx⟩ os k (({ s with h:=r.2 }:AS).putO d r.1):=by
 rw [X2d (h1:=rfl) (h2:=by simp [cls]),X28 (h2:=by simp [cls])]
 show X0S (if u=u then _ else _) _=_
 rw [if_pos rfl]
theorem Xmb (x y:Operand) (u u':TypeId):X1P X (n+1) ⟨all,st,hc,bs,i,nx⟩ ⟨d,.call { callee:=.builtin .copy,args:=#[x,y],argTypes:=#[u,u'] },t,p,af,g⟩ os k s =
  X0S (XaP X.P u (s.ev x) (s.ev y) s.h) fun r=>X0x X n ⟨all,st,hc,bs,i+1,nx⟩ os k (({ s with h:=r.2 }:AS).putO d r.1):=by
 rw [X2d (h1:=rfl) (h2:=by simp [cls]),X28 (h2:=by simp [cls])]
 rfl
theorem Xhu (u:TypeId):X1P X (n+1) ⟨all,st,hc,none,i,nx⟩ ⟨d,.alloc u,t,p,af,g⟩ os k s =
  X0S (X52 X.P none u s.h) fun r=>X0x X n ⟨all,st,hc,none,i+1,nx⟩ os k (({ s with h:=r.2 }:AS).putO d r.1):=X4d _ _ _ _ _ _ _ _ _ _ _ rfl
theorem Xrt (u:TypeId) (x:Operand):X1P X (n+1) ⟨all,st,hc,none,i,nx⟩ ⟨d,.box u x,t,p,af,g⟩ os k s =
  X0S (Xnm none (s.ev x) s.h) fun r=>X0x X n ⟨all,st,hc,none,i+1,nx⟩ os k (({ s with h:=r.2 }:AS).putO d r.1):=X4d _ _ _ _ _ _ _ _ _ _ _ rfl
theorem Xmd (u:TypeId) (x y:Operand):X1P X (n+1) ⟨all,st,hc,none,i,nx⟩ ⟨d,.makeSlice u x y,t,p,af,g⟩ os k s =
  X0S (X7b X.P none u (s.ev x) (s.ev y) s.h) fun r=>X0x X n ⟨all,st,hc,none,i+1,nx⟩ os k (({ s with h:=r.2 }:AS).putO d r.1):=X4d _ _ _ _ _ _ _ _ _ _ _ rfl
theorem Xbs (u:TypeId):X1P X (n+1) ⟨all,st,hc,none,i,nx⟩ ⟨d,.makeMap u none,t,p,af,g⟩ os k s =
  X0S (X5Y X.P none u s.h) fun r=>X0x X n ⟨all,st,hc,none,i+1,nx⟩ os k (({ s with h:=r.2 }:AS).putO d r.1):=X4d _ _ _ _ _ _ _ _ _ _ _ rfl
variable (b:Nat)
theorem Xei (u:TypeId):X1P X (n+1) ⟨all,st,hc,some b,i,nx⟩ ⟨d,.alloc u,t,p,af,g⟩ os k s =
  (s.h[nx]?=some .unborn∧X0S (X52 X.P (some nx) u s.h) fun r=>X0x X n ⟨all,st,hc,some b,i+1,nx+1⟩ os k (({ s with h:=r.2 }:AS).putO d r.1)):=X81 _ _ _ _ _ _ _ _ _ _ _ _ rfl rfl
theorem Xhx (u:TypeId) (x y:Operand):X1P X (n+1) ⟨all,st,hc,some b,i,nx⟩ ⟨d,.makeSlice u x y,t,p,af,g⟩ os k s =
  (s.h[nx]?=some .unborn∧X0S (X7b X.P (some nx) u (s.ev x) (s.ev y) s.h) fun r=>X0x X n ⟨all,st,hc,some b,i+1,nx+1⟩ os k (({ s with h:=r.2 }:AS).putO d r.1)):=X81 _ _ _ _ _ _ _ _ _ _ _ _ rfl rfl
variable (n0:Nat) (hid:List Nat) (sl:List AV) (tm:List (Nat×AV)) (h:List AO)
theorem XwE (t:Nat):AS.ev ⟨n0,hid,sl,tm,h⟩ (.tmp t)=if t<n0 then sl.getD t .any else X0P tm t:=nrfl rfl
theorem Xp1 (s:AS) (v:Value):s.ev (.const v)=cst v:=nrfl rfl
theorem Xt4 (s:AS) (f:FuncId):s.ev (.func f)=.fn f []:=nrfl rfl
theorem XtF (t:Nat):AS.get ⟨n0,hid,sl,tm,h⟩ t=if t<n0 then sl.getD t .any else X0P tm t:=nrfl rfl
theorem Xmn (i:Nat) (v:AV):AS.putO ⟨n0,hid,sl,tm,h⟩ (some i) v=if i<n0 then ⟨n0,hid,sl.set i v,tm,h⟩ else ⟨n0,hid,sl,(i,v) :: tm,h⟩:=nrfl rfl
theorem Xmm (s:AS) (v:AV):s.putO none v=s:=nrfl rfl
theorem Xt7 (i:Nat) (v:AV):AS.fix ⟨n0,hid,sl,tm,h⟩ i v=if i<n0 then ⟨n0,hid,sl.set i v,tm,h⟩ else ⟨n0,hid,sl,Xg7 tm i v,h⟩:=nrfl rfl
theorem XsT:AS.clr ⟨n0,[],sl,tm,h⟩=⟨n0,[],sl,[],h⟩:=by simp [AS.clr]
def XdY (hid:List Nat):List (Nat×AV)→List (Nat×AV)
 | []=>[]
 | (i,v) :: l=>if hid.contains i=true then (i,v) :: XdY hid l else XdY hid l
theorem XsR (j:Nat) (hid':List Nat):AS.clr ⟨n0,j :: hid',sl,tm,h⟩=⟨n0,j :: hid',sl,XdY (j :: hid') tm,h⟩:=by
 unfold AS.clr
 congr 1
 show tm.filter (fun p=>(j :: hid').contains p.1)=_
 induction tm with
 | nil=>rfl
 | cons x l ih =>
  obtain ⟨i,v⟩:=x
  simp only [List.filter_cons,XdY,ih]
def X9G (hcall:Bool):List Oper→Nat
 | []=>0
 | o :: os=>(if cls hcall o.op=2 then 1 else 0)+X9G hcall os
theorem Xlk (hcall:Bool) (ops:Array Oper):X9H hcall ops=X9G hcall ops.toList:=by
 unfold X9H
 induction ops.toList with
 | nil=>rfl
 | cons o os ih =>
  simp only [List.filter_cons,X9G]
  by_cases hc:cls hcall o.op=2
  ·simp [hc,ih]; omega
  ·simp [hc,ih]
theorem Xlq (hcall:Bool) (ops:Array Oper):Xfx hcall ops ⟨n0,hid,sl,tm,h⟩ =
  ⟨n0,hid,sl,(AS.clr ⟨n0,hid,sl,tm,h⟩).tm,h ++ List.replicate (X9G hcall ops.toList) .unborn⟩:=by
 unfold Xfx; rw [Xlk]; rfl
end
theorem XsY (k:IntKind) (n:Int):cst (.int k n)=.int k n:=nrfl rfl
theorem XoJ (b:Bool):cst (.bool b)=.bool b:=nrfl rfl
theorem XsZ:cst (.pointer none)=.nil:=nrfl rfl
theorem Xwf:cst (.slice none 0 0)=.sl 0 0 (fun _=>.any) true:=nrfl rfl
theorem Xwe:cst .nilFunc=.nilfn:=nrfl rfl
def slF {α:Type} (e:α→AV) (d:α) (l:List α):Nat→AV:=fun j=>e (l.getD j d)
def sl1 {α:Type} (e:α→AV) (d:α) (l:List α):AV:=.sl l.length l.length (slF e d l) false
def I (n:Int):AV:=.int .i64 n
def X0f (l:List Int):AV:=sl1 I 0 l
def X2R (l:List Bool):AV:=sl1 AV.bool false l
def X8p (l:List (List Int)):AV:=sl1 X0f [] l
def X0M {α:Type} (e:α→List AV) (s:Nat) (d:α) (l:List α):Nat→AV:=fun j=>(e (l.getD (j / s) d)).getD (j % s) .any
def sls {α:Type} (e:α→List AV) (s:Nat) (d:α) (l:List α):AV:=.sl l.length (l.length*s) (X0M e s d l) false
theorem X3z {α:Type} (e:α→List AV) (s:Nat) (d:α) (l:List α) (i j:Nat) (hj:j<s):X0M e s d l (i*s+j)=(e (l.getD i d)).getD j .any:=by
 unfold X0M
 rw [Nat.mul_comm,Nat.mul_add_div (by omega),Nat.mul_add_mod,Nat.div_eq_of_lt hj,Nat.mod_eq_of_lt hj,Nat.add_zero]
theorem X3I {α:Type} (e:α→List AV) (s:Nat) (d:α) (l:List α) (i:Nat) (hj:0<s):X0M e s d l (i*s)=(e (l.getD i d)).getD 0 .any:=by
 simpa using X3z e s d l i 0 hj
theorem X3Q {α:Type} (e:α→AV) (d:α) (l:List α) (j:Nat):slF e d l j=e (l.getD j d):=nrfl rfl
theorem XxW (n:Int):I n=.int .i64 n:=nrfl rfl
theorem X08 (n:Int):Settled (I n):=X21 _ _
theorem X78 {α:Type} {e:α→AV} {d:α} {l:List α} (h:∀ a,Settled (e a)):Settled (sl1 e d l):=X1J fun _ _=>h _
theorem X07 (l:List Int):Settled (X0f l):=X78 X08
theorem X3o (l:List Bool):Settled (X2R l):=X78 X02
theorem X1H (l:List (List Int)):Settled (X8p l):=X78 X07
theorem X0c {l:List AV} (hl:∀ a∈l,Settled a) (j:Nat):Settled (l.getD j .any):=by
 rw [List.getD_eq_getElem?_getD]
 cases hx:l[j]? with
 | none=>exact X3v
 | some x=>exact hl _ (List.mem_of_getElem? hx)
theorem X5M {α:Type} {e:α→List AV} {s:Nat} {d:α} {l:List α} (h:∀ a,∀ x∈e a,Settled x):Settled (sls e s d l):=X1J fun _ _=>X0c (h _) _
theorem Xob {α:Type} (e:α→AV) (d:α) (l m:List α):X2H (l.length*1) (slF e d l) (m.length*1) (slF e d m)=slF e d (l ++ m):=by
 funext j
 unfold X2H slF
 simp only [Nat.mul_one,List.getD_eq_getElem?_getD]
 by_cases h1:j<l.length
 ·rw [if_pos h1,List.getElem?_append_left h1]
 ·rw [if_neg h1,List.getElem?_append_right (by omega)]
  by_cases h2:j<l.length+m.length
  ·rw [if_pos h2]
  ·rw [if_neg h2,List.getElem?_eq_none (by omega),List.getElem?_eq_none (by omega)]
theorem Xcg {α:Type} (e:α→AV) (d:α) (l:List α) (x:α):X2H (l.length*1) (slF e d l) (1*1) (ofL [e x])=slF e d (l ++ [x]):=by
 rw [← Xob e d l [x]]
 funext j
 unfold X2H ofL slF
 simp only [List.length_cons,List.length_nil,Nat.mul_one,Nat.zero_add]
 by_cases h1:j<l.length
 ·rw [if_pos h1,if_pos h1]
 ·by_cases h2:j<l.length+1
  ·obtain rfl:j=l.length:=by omega
   simp
  ·rw [if_neg h1,if_neg h2,if_neg h1,if_neg h2]
theorem Xna {α:Type} (e:α→AV) (d:α) (l:List α) (i:Nat) (x:α) (h:i<l.length):upd (slF e d l) i (e x)=slF e d (l.set i x):=by
 funext j
 unfold upd slF
 simp only [List.getD_eq_getElem?_getD]
 by_cases hj:j=i
 ·subst hj; simp [h]
 ·rw [if_neg hj,List.getElem?_set_ne (Ne.symm hj)]
theorem Xgt (l:List AV) (i:Nat) (a:AV) (h:i<l.length):upd (ofL l) i a=ofL (l.set i a):=by
 funext j
 unfold upd ofL
 simp only [List.getD_eq_getElem?_getD]
 by_cases hj:j=i
 ·subst hj; simp [h]
 ·rw [if_neg hj,List.getElem?_set_ne (Ne.symm hj)]
structure Fn (P:Program) (f:FuncId) (args:List AV) (r:AV):Prop where
 call:PureCall P f args r
 settled:∀ a∈args,Settled a
theorem X01 {X:Env} {M:Md} {o:Oper} {g:FuncId} {caps args as':List AV} {K:AS→Prop} {s:AS} {r:AV} (h:Fn X.P g as' r) (ha:(args ++ caps).map AV.loose=as') (hK:K (s.putO o.dst r)) :
  XbY X M o (.fn g caps) args K s:=by
 subst ha
 exact ⟨r,s.h,⟨.inl g,caps,rfl,.inl ⟨_,XaG _,h.call,h.settled,rfl⟩⟩,hK⟩
theorem X17 {X:Env} {M:Md} {o:Oper} {g:FuncId} {caps args as':List AV} {K:AS→Prop} {s:AS} {r:AV} (h:Fn X.P g as' r) (ha:WeakL (args ++ caps) as') (hK:K (s.putO o.dst r)) :
  XbY X M o (.fn g caps) args K s :=
 ⟨r,s.h,⟨.inl g,caps,rfl,.inl ⟨_,ha,h.call,h.settled,rfl⟩⟩,hK⟩
theorem XaH {n m m':Nat} {f f':Nat→AV} {t:Bool} (hm:m'≤m) (hf:∀ j,j<m'→f j=f' j):Weak (.sl n m f t) (.sl n m' f' false):=fun c v h=>by
 cases h with
 | sl b base _ _ cap _ _ us hS hc hr hn ht=>exact .sl b base n m' cap f' false us hS (fun j hj=>hc j (by omega)) (fun j hj=>by rw [← hf j hj]; exact hr j (by omega)) hn (by simp)
 | slz a cap _ _ ht =>
  obtain rfl:m'=0:=by omega
  exact .slz _ _ _ _ (by simp)
theorem X2l {X:Env} {M:Md} {o:Oper} {g:FuncId} {caps args as':List AV} {K:AS→Prop} {s:AS} {r:AV} (h:Fn X.P g as' r) (hst:M.strict M.i=false) (ha:SeesL s.h ((args ++ caps).map AV.loose) as') (hf:Xv2 r) (hK:K (s.putO o.dst r)) :
  XbY X M o (.fn g caps) args K s :=
 ⟨r,s.h,⟨.inl g,caps,rfl,.inr (.inl ⟨hst,as',ha,h.call,hf,rfl⟩)⟩,hK⟩
theorem X7f {X:Env} {M:Md} {o:Oper} {g:FuncId} {caps args as':List AV} {K:AS→Prop} {s:AS} {r:AV} {H':List AO} (hb:M.hcall=true) (h:HCall X.P g as' s.h r H') (hcon:XaM s.h H')
  (hu:∀ id:Nat,s.h[id]?≠some .unborn) (ha:WeakL (args ++ caps) as') (hK:K (({ s with h:=H' }:AS).putO o.dst r)):XbY X M o (.fn g caps) args K s:=by
 refine ⟨r,H',⟨.inl g,caps,rfl,.inr (.inr ⟨hb,as',ha,fun _=>H',fun h2 ho=>?_,rfl,hcon,fun h2 id ob _ hid=>absurd hid (hu id),fun id hid=>absurd hid (hu id)⟩)⟩,hK⟩
 have:h2=s.h:=by
  apply List.ext_getElem?
  intro i
  exact ho i (hu i)
 rw [this]; exact h
theorem Fn.intro {P:Program} {f:FuncId} {fn:Func} {body:Code} (he:X5X P f) (hf:P.funcs[f]?=some fn) (hb:fn.body=some body) (hm:P.follows .mixedOrders=true) {args:List AV} {r:AV}
  (n0:Nat) (hid str hcs:List Nat) (hok:X1y fn.ntmps str hcs body=true) (hlen:args.length≤fn.ntmps) (hs:∀ a∈args,Settled a)
  (h:Run (X2f P fn str hcs r) [.code body] (AS.start n0 hid args [])):Fn P f args r :=
 ⟨PureCall.intro he hf hb hm n0 hid str hcs hok hlen h,hs⟩
theorem X6Y {N:Nat} {c c':Ctx} {a:Act} {s:AS} (hst:St N c a s) (hx:Ext c c') (hr:HRel c') {i:Nat} {v:AV} (hv:Rep c' (a.tmps.getD i undef) v):St N c' a (({ s with h:=c'.H }:AS).put i v):=by
 refine ⟨hst.size,hst.defers,fun j=>?_,by simp,hr⟩
 rcases XlH ({ s with h:=c'.H }:AS) i j v with ⟨h1,h2⟩ | h1 | ⟨h1,h2⟩
 ·rw [h1,h2]; exact hv
 ·rw [h1]; exact .any _
 ·rw [h2]; exact hx.rep hst.hrel (hst.slots j)
theorem X0W {m:Nat} {s:AS} (i es:Nat) (f:Nat→AV) {M:Nat} {g:Nat→AV} (hi:s.get i=.sl 0 M g true) :
  Sub m s (({ s with h:=s.h ++ [.row 0 0 f] }:AS).put i (.osl s.h.length 0 es 0 0)):=by
 intro N c a hst
 have hH:=hst.heap
 have hset:(c.H ++ [AO.row 0 0 f])[c.H.length]?=some (.row 0 0 f):=by simp
 have hoth:∀ i,i≠c.H.length→(c.H ++ [AO.row 0 0 f])[i]?=c.H[i]?:=fun i hi=>by
  have:=X4g (nid:=none) (h:=c.H) (o:=.row 0 0 f) i (by simpa [X1G] using hi)
  simpa [X4V] using this
 obtain ⟨g1,g2⟩:=X9q hst.hrel (id:=c.H.length) (ver:=0) (w:=c.w) hset hoth rfl (.inl (by simp))
 refine ⟨⟨c.w,c.S,X5q c.γ c.H.length none,c.H ++ [.row 0 0 f]⟩,rfl,g2.toB m,?_⟩
 have hv:=hst.slots i
 rw [hi] at hv
 have:=X6Y hst g2 g1 (i:=i) (v:=.osl c.H.length 0 es 0 0) (by
  have hinf:inf (c.H ++ [AO.row 0 0 f]) c.H.length=some 0:=by simp [inf,AO.info]
  cases hq:a.tmps.getD i undef with
  | slice b n cap =>
   rw [hq] at hv
   cases hv with
   | sl _ _ _ _ _ _ _ _ _ _ _ _ ht=>have:=ht rfl; subst this; exact .oslz _ _ _ _ _ hinf
   | slz _ _ _ _ ht=>have:=ht rfl; subst this; exact .oslz _ _ _ _ _ hinf
  | _=>rw [hq] at hv; cases hv)
 simp only [hH] at this ⊢
 exact this
theorem XhY {m:Nat} {s:AS} (i:Nat) {id ver es off n k M:Nat} {f:Nat→AV} (hi:s.get i=.osl id ver es off n) (ho:s.h[id]?=some (.con ver k f)) (hle:off+M≤k) (hM:n=0→M=0) :
  Sub m s (s.put i (.sl n M (fun j=>f (off+j)) false)):=by
 intro N c a hst
 have hH:=hst.heap
 refine ⟨c,rfl,(Ext.refl c).toB m,?_⟩
 rw [← hH] at ho
 have hinf:inf c.H id=some ver:=by simp [inf,ho,AO.info]
 have hns:¬ stale c.H id ver:=by
  rintro (⟨v',hi,hlt⟩ | hd)
  ·rw [hinf] at hi; cases hi; omega
  ·simp [inf,hd,AO.info] at hinf
 have hv:=hst.slots i
 rw [hi] at hv
 have hz:n=0→∀ b cap,Rep c (.slice b 0 cap) (.sl n M (fun j=>f (off+j)) false):=by
  rintro hn b cap
  rw [hn,hM hn]
  exact .slz _ _ _ _ (by simp)
 have:=X6Y hst (Ext.refl c) hst.hrel (i:=i) (v:=.sl n M (fun j=>f (off+j)) false) (by
  generalize a.tmps.getD i undef=q at hv
  cases hv with
  | osl _ _ _ _ _ cap b sz hi hg hn hcap hmx =>
   rcases hst.hrel.con id ver k f ho with ⟨h1,_⟩ | ⟨b',sz',cs,el,fr,h1,h2,h3,h4,h5,h6⟩
   ·rw [h1] at hg; cases hg
   ·rw [h1] at hg; cases hg
    refine .sl b off n M cap _ false (fun j=>cs.getD (off+j) undef) h5 (fun j hj=>?_) (fun j hj=>h6 _ (by omega)) hn (by simp)
    have hlt:off+j<cs.size:=by omega
    rw [cell_of_row c.w b _ cs el fr h2]
    simp [hlt,Array.getD]
  | oslz _ _ _ _ b hi=>exact hz rfl b 0
  | oslOld _ _ _ _ _ b cap hn hs=>exact absurd hs hns
  | oslzOld _ _ _ _ b hs=>exact absurd hs hns)
 rwa [show ({ s with h:=c.H }:AS)=s by rw [hH]] at this
theorem XeO {m:Nat} {s:AS} (i:Nat) {id ver off k:Nat} {f:Nat→AV} (hi:s.get i=.ref id ver off) (ho:s.h[id]?=some (.con ver k f)) (hk:0<k) :
  Sub m s (s.put i (.ptr k f off)):=by
 intro N c a hst
 have hH:=hst.heap
 refine ⟨c,rfl,(Ext.refl c).toB m,?_⟩
 rw [← hH] at ho
 have hinf:inf c.H id=some ver:=by simp [inf,ho,AO.info]
 have hns:¬ stale c.H id ver:=by
  rintro (⟨v',hi,hlt⟩ | hd)
  ·rw [hinf] at hi; cases hi; omega
  ·simp [inf,hd,AO.info] at hinf
 have hv:=hst.slots i
 rw [hi] at hv
 have:=X6Y hst (Ext.refl c) hst.hrel (i:=i) (v:=.ptr k f off) (by
  generalize a.tmps.getD i undef=q at hv
  cases hv with
  | ref _ _ _ b sz hi hg =>
   rcases hst.hrel.con id ver k f ho with ⟨h1,h2⟩ | ⟨b',sz',cs,el,fr,h1,h2,h3,h4,h5,h6⟩
   ·omega
   ·rw [h1] at hg; cases hg
    have:=Rep.ptr (c:=c) b 0 k off f (fun j=>cs.getD j undef) h5 (fun j hj=>X3K h2 (by omega) j hj) h6
    rwa [Nat.zero_add] at this
  | refOld _ _ _ b hs=>exact absurd hs hns)
 rwa [show ({ s with h:=c.H }:AS)=s by rw [hH]] at this
end
end Go.Ab
namespace Go.Ab
open Go Go.RowKit
noncomputable section
@[congr] theorem obind_congr {α:Type} {o o':Option α} {K:α→Prop} (h:o=o'):X0S o K=X0S o' K:=by rw [h]
@[congr] theorem vc_congr {X:Env} {n:Nat} {k:List Item} {s s':AS} (h:s=s'):vc X n k s=vc X n k s':=by rw [h]
@[congr] theorem vcOps_congr {X:Env} {n:Nat} {M:Md} {os:List Oper} {k:List Item} {s s':AS} (h:s=s'):X0x X n M os k s=X0x X n M os k s':=by rw [h]
@[congr] theorem vcOp_congr {X:Env} {n:Nat} {M:Md} {o:Oper} {os:List Oper} {k:List Item} {s s':AS} (h:s=s'):X1P X n M o os k s=X1P X n M o os k s':=by rw [h]
@[congr] theorem runL_congr {X:Env} {k:List Item} {s s':AS} (h:s=s'):Xv5 X k s=Xv5 X k s':=by rw [h]
@[congr] theorem run_congr {X:Env} {k:List Item} {s s':AS} (h:s=s'):Run X k s=Run X k s':=by rw [h]
@[congr] theorem retOk_congr {X:Env} {s s':AS} (h:s=s'):RetOk X s=RetOk X s':=by rw [h]
@[congr] theorem retE_congr {X:Env} {s s':AS} (h:s=s'):RetE X s=RetE X s':=by rw [h]
@[congr] theorem callL_congr {X:Env} {M:Md} {o:Oper} {f f':AV} {args args':List AV} {K:AS→Prop} {s s':AS} (h1:f=f') (h2:args=args') (h3:s=s'):XbY X M o f args K s=XbY X M o f' args' K s':=by rw [h1,h2,h3]
@[congr] theorem drawS_congr {b:Bool} {ops:Array Oper} {s s':AS} (h:s=s'):Xfx b ops s=Xfx b ops s':=by rw [h]
def X6V (ops:Array Oper) (j:Nat):Option Nat:=(ops[j]?).bind (·.dst)
@[congr] theorem dstAt_congr {ops:Array Oper} {j j':Nat} (h:j=j'):X6V ops j=X6V ops j':=by rw [h]
theorem Xj2 (o:Oper) (l:List Oper):X6V (o :: l).toArray 0=o.dst:=by simp [X6V]
theorem Xj1 (o:Oper) (l:List Oper) (j:Nat):X6V (o :: l).toArray (j+1)=X6V l.toArray j:=by simp [X6V]
def X3q (b:Bool) (T F:Prop):Prop:=(b=true→T)∧(b=false→F)
@[congr] theorem guardP_congr {b b':Bool} {T F:Prop} (h:b=b'):X3q b T F=X3q b' T F:=by rw [h]
theorem X1x {b:Bool} {T F:Prop} (h1:b=true→T) (h2:b=false→F):X3q b T F:=⟨h1,h2⟩
theorem X9P (T F:Prop):X3q true T F=T:=by simp [X3q]
theorem X3M (T F:Prop):X3q false T F=F:=by simp [X3q]
theorem Xbn (p:Prop) [Decidable p] (T F:Prop):X3q (decide p) T F=((p→T)∧(¬ p→F)):=by simp [X3q]
theorem X9O (p:Prop) [Decidable p] (T F:Prop):X3q (!decide p) T F=((¬ p→T)∧(p→F)):=by simp [X3q]
def cAt (a:AV) (T F:Prop):Prop:=match a with | .bool b=>X3q b T F | .abool=>T∧F | _=>False
@[congr] theorem cAt_congr {a a':AV} {T F:Prop} (h:a=a'):cAt a T F=cAt a' T F:=by rw [h]
theorem X60 (T F:Prop):cAt .abool T F=(T∧F):=nrfl rfl
theorem X7e (b:Bool) (T F:Prop):cAt (.bool b) T F=X3q b T F:=nrfl rfl
def gAt (a:AV) (T F U:Prop):Prop:=match a with | .bool b=>X3q b T F | .tup []=>U | _=>False
@[congr] theorem gAt_congr {a a':AV} {T F U:Prop} (h:a=a'):gAt a T F U=gAt a' T F U:=by rw [h]
theorem Xha (b:Bool) (T F U:Prop):gAt (.bool b) T F U=X3q b T F:=nrfl rfl
theorem Xe2 (T F U:Prop):gAt X11 T F U=U:=nrfl rfl
def dAt (o:Option Nat) (K:Nat→Prop):Prop:=match o with | some e=>K e | none=>False
@[congr] theorem dAt_congr {o o':Option Nat} {K:Nat→Prop} (h:o=o'):dAt o K=dAt o' K:=by rw [h]
theorem XgX (e:Nat) (K:Nat→Prop):dAt (some e) K=K e:=nrfl rfl
def pAt (a:AV) (T F:Prop):Prop:=match a with | .bool true=>T | .bool false=>F | _=>False
@[congr] theorem pAt_congr {a a':AV} {T F:Prop} (h:a=a'):pAt a T F=pAt a' T F:=by rw [h]
theorem XhA (T F:Prop):pAt (.bool true) T F=T:=nrfl rfl
theorem Xeo (T F:Prop):pAt (.bool false) T F=F:=nrfl rfl
def xAt (a:AV) (j:Nat) (K:AV→Prop):Prop:=match a with | .tup l=>j<l.length∧K (l.getD j .any) | _=>False
@[congr] theorem xAt_congr {a a':AV} {j:Nat} {K:AV→Prop} (h:a=a'):xAt a j K=xAt a' j K:=by rw [h]
theorem Xic (a:AV) (l:List AV) (K:AV→Prop):xAt (.tup (a :: l)) 0 K=K a:=by simp [xAt]
theorem Xib (a:AV) (l:List AV) (j:Nat) (K:AV→Prop):xAt (.tup (a :: l)) (j+1) K=xAt (.tup l) j K:=by simp [xAt]
def eAt (o:Option (List Item)) (K:List Item→Prop):Prop:=match o with | some k=>K k | none=>False
@[congr] theorem eAt_congr {o o':Option (List Item)} {K:List Item→Prop} (h:o=o'):eAt o K=eAt o' K:=by rw [h]
theorem Xh0 (k:List Item) (K:List Item→Prop):eAt (some k) K=K k:=nrfl rfl
theorem XqF (X:Env) (n:Nat) (k:List Item) (s:AS) (o:Operand) (a b:Code):vc X (n+1) (.code (.cond o a b) :: k) s=cAt (s.ev o) (vc X n (.code a :: k) s) (vc X n (.code b :: k) s):=by
 rw [XuL]
 unfold cAt X3q
 cases s.ev o <;> rfl
theorem XqG (X:Env) (n:Nat) (k:List Item) (s:AS) (i:Nat):vc X (n+1) (.code (.exit i) :: k) s=eAt (exitTo i k) fun k'=>vc X n k' s:=by
 rw [XuM]
 unfold eAt
 cases exitTo i k <;> rfl
theorem XpL (X:Env) (n:Nat) (k:List Item) (s:AS) (all:Array Oper) (st:Nat→Bool) (hc:Bool) (bs:Option Nat) (i nx:Nat) (os:List Oper) (d:Option Nat) (t:TypeId) (p:String) (af:Array Edge) (g:Option (Nat×Bool)) (x y z:Operand) :
  X1P X (n+1) ⟨all,st,hc,bs,i,nx⟩ ⟨d,.pick x y z,t,p,af,g⟩ os k s=pAt (s.ev x) (X0x X n ⟨all,st,hc,bs,i+1,nx⟩ os k (s.putO d (s.ev y))) (X0x X n ⟨all,st,hc,bs,i+1,nx⟩ os k (s.putO d (s.ev z))):=by
 rw [XtV]
 unfold pAt
 cases hx:s.ev x with
 | bool b=>cases b <;> rfl
 | _=>rfl
theorem XfT (X:Env) (n:Nat) (k:List Item) (s:AS) (all:Array Oper) (st:Nat→Bool) (hc:Bool) (bs:Option Nat) (i nx:Nat) (os:List Oper) (d:Option Nat) (t:TypeId) (p:String) (af:Array Edge) (g:Option (Nat×Bool)) (x:Operand) (j:Nat) :
  X1P X (n+1) ⟨all,st,hc,bs,i,nx⟩ ⟨d,.extract x j,t,p,af,g⟩ os k s=xAt (s.ev x) j fun v=>X0x X n ⟨all,st,hc,bs,i+1,nx⟩ os k (s.putO d v):=by
 rw [Xjl]
 unfold xAt
 cases hx:s.ev x <;> rfl
theorem Xng (X:Env) (n:Nat) (k:List Item) (s:AS) (all:Array Oper) (st:Nat→Bool) (hc:Bool) (bs:Option Nat) (i nx:Nat) (os:List Oper)
  (d:Option Nat) (op:Op) (t:TypeId) (p:String) (af:Array Edge) (j:Nat):X0x X (n+1) ⟨all,st,hc,bs,i,nx⟩ (⟨d,op,t,p,af,some (j,true)⟩ :: os) k s =
 dAt (X6V all j) fun e=>gAt (s.get e) (X1P X n ⟨all,st,hc,bs,i,nx⟩ ⟨d,op,t,p,af,some (j,true)⟩ os k (s.fix e (.bool true)))
  (X0x X n (Md.next ⟨all,st,hc,bs,i,nx⟩ ⟨d,op,t,p,af,some (j,true)⟩) os k ((s.fix e (.bool false)).putO d X11))
  (X0x X n (Md.next ⟨all,st,hc,bs,i,nx⟩ ⟨d,op,t,p,af,some (j,true)⟩) os k (s.putO d X11)):=by
 rw [XaE]
 show (match X6V all j with | some e=>_ | none=>False)=_
 unfold dAt
 cases X6V all j with
 | none=>rfl
 | some e =>
  simp only
  cases hx:s.get e with
  | bool b=>simp only [gAt,X3q]; simp
  | tup l=>cases l <;> rfl
  | _=>rfl
theorem Xnf (X:Env) (n:Nat) (k:List Item) (s:AS) (all:Array Oper) (st:Nat→Bool) (hc:Bool) (bs:Option Nat) (i nx:Nat) (os:List Oper)
  (d:Option Nat) (op:Op) (t:TypeId) (p:String) (af:Array Edge) (j:Nat):X0x X (n+1) ⟨all,st,hc,bs,i,nx⟩ (⟨d,op,t,p,af,some (j,false)⟩ :: os) k s =
 dAt (X6V all j) fun e=>gAt (s.get e) (X0x X n (Md.next ⟨all,st,hc,bs,i,nx⟩ ⟨d,op,t,p,af,some (j,false)⟩) os k ((s.fix e (.bool true)).putO d X11))
  (X1P X n ⟨all,st,hc,bs,i,nx⟩ ⟨d,op,t,p,af,some (j,false)⟩ os k (s.fix e (.bool false)))
  (X0x X n (Md.next ⟨all,st,hc,bs,i,nx⟩ ⟨d,op,t,p,af,some (j,false)⟩) os k (s.putO d X11)):=by
 rw [XaE]
 show (match X6V all j with | some e=>_ | none=>False)=_
 unfold dAt
 cases X6V all j with
 | none=>rfl
 | some e =>
  simp only
  cases hx:s.get e with
  | bool b=>simp only [gAt,X3q]; simp
  | tup l=>cases l <;> rfl
  | _=>rfl
theorem Xgw (X:Env) (n:Nat) (k:List Item) (s:AS) (all:Array Oper) (st:Nat→Bool) (hc:Bool) (i nx:Nat) (o:Oper) (os:List Oper) :
  X0x X n (Md.next ⟨all,st,hc,none,i,nx⟩ o) os k s=X0x X n ⟨all,st,hc,none,i+1,nx⟩ os k s:=nrfl rfl
theorem Xgx (X:Env) (n:Nat) (k:List Item) (s:AS) (all:Array Oper) (st:Nat→Bool) (hc:Bool) (b i nx:Nat) (o:Oper) (os:List Oper) :
  X0x X n (Md.next ⟨all,st,hc,some b,i,nx⟩ o) os k s=if cls hc o.op=2 then X0x X n ⟨all,st,hc,some b,i+1,nx+1⟩ os k s else X0x X n ⟨all,st,hc,some b,i+1,nx⟩ os k s:=by
 rw [Xm4]
 split <;> simp [*]
theorem Xgv (X:Env) (n:Nat) (k:List Item) (s:AS) (all:Array Oper) (st:Nat→Bool) (hc:Bool) (bs:Option Nat) (i nx:Nat) (os:List Oper)
  (d:Option Nat) (op:Op) (t:TypeId) (p:String) (af:Array Edge):X0x X (n+1) ⟨all,st,hc,bs,i,nx⟩ (⟨d,op,t,p,af,none⟩ :: os) k s=X1P X n ⟨all,st,hc,bs,i,nx⟩ ⟨d,op,t,p,af,none⟩ os k s:=nrfl rfl
theorem Xly (i j:Nat) (k:List Item):exitTo i (.inBlock j :: k)=if i=j then some k else exitTo i k:=by
 simp only [exitTo,beq_iff_eq]
 first | rfl | (by_cases h:i=j <;> simp [h,eq_comm])
theorem Xfy (i:Nat) (c:Code) (k:List Item):exitTo i (.code c :: k)=exitTo i k:=nrfl rfl
theorem Xfz (i:Nat) (c:Code) (k:List Item):exitTo i (.inLoop c :: k)=exitTo i k:=nrfl rfl
@[congr] theorem exitTo_congr {i i':Nat} {k:List Item} (h:i=i'):exitTo i k=exitTo i' k:=by rw [h]
section
variable (P:Program) (fn:Func) (str hcs:List Nat) (b:Nat) (r:AV) (H':List AO)
theorem XdU:(X2f P fn str hcs r).P=P:=nrfl rfl
theorem X6W:(X2f P fn str hcs r).fn=fn:=nrfl rfl
theorem XoV:(X2f P fn str hcs r).str=str:=nrfl rfl
theorem XoU:(X2f P fn str hcs r).hcs=hcs:=nrfl rfl
theorem Xwy:(Xnr P fn str hcs b r H').P=P:=nrfl rfl
theorem Xlv:(Xnr P fn str hcs b r H').fn=fn:=nrfl rfl
theorem XoP:(Xnr P fn str hcs b r H').str=str:=nrfl rfl
theorem XoO:(Xnr P fn str hcs b r H').hcs=hcs:=nrfl rfl
end
section
variable (P:Program)
theorem X8Z {α:Type} {p:Prop} (h:p) (x:Option α):oif p x=x:=if_pos h
theorem Xk9 (op:BinOp) (t:TypeId) (i:Nat) (a b:AV):Xf0 P op t (.tmp i) a b=XaO P op t a b:=nrfl rfl
theorem Xk7 (op:BinOp) (t:TypeId) (k:IntKind) (n:Int) (a b:AV):Xf0 P op t (.const (.int k n)) a b=XaO P op t a b:=nrfl rfl
theorem Xk8 (op:BinOp) (t:TypeId) (a b:AV):Xf0 P op t (.const (.slice none 0 0)) a b=XvQ P op t a:=nrfl rfl
theorem Xo9 (t:TypeId) (n m:Nat) (f:Nat→AV) (b:Bool):XvQ P .eql t (.sl n m f b)=oif (X8U P t=true) (some (if n=0 then .abool else .bool false)):=nrfl rfl
theorem Xka (t:TypeId) (l m:List AV):XaO P .neq t (.agg l) (.agg m)=oif (Xun P t l.length=true) ((XeV true l m).map fun b=>.bool (!b)):=nrfl rfl
theorem XnZ (acc:Bool):XeV acc [] []=some acc:=nrfl rfl
theorem XnY (acc:Bool) (k:IntKind) (x y:Int) (l m:List AV):XeV acc (.int k x :: l) (.int k y :: m)=XeV (acc && decide (x=y)) l m:=X8Z rfl _
theorem XnH (t:TypeId) (k:IntKind) (x y:Int):XaO P .add t (.int k x) (.int k y)=some (.int k (k.wrap (x+y))):=X8Z rfl _
theorem XnR (t:TypeId) (k:IntKind) (x y:Int):XaO P .sub t (.int k x) (.int k y)=some (.int k (k.wrap (x - y))):=X8Z rfl _
theorem XnN (t:TypeId) (k:IntKind) (x y:Int):XaO P .mul t (.int k x) (.int k y)=some (.int k (k.wrap (x*y))):=X8Z rfl _
theorem XnP (t:TypeId) (k:IntKind) (x y:Int):XaO P .quo t (.int k x) (.int k y)=oif (y≠0) (some (.int k (k.wrap (x.tdiv y)))):=by simp [XaO]
theorem XnQ (t:TypeId) (k:IntKind) (x y:Int):XaO P .rem t (.int k x) (.int k y)=oif (y≠0) (some (.int k (x.tmod y))):=by simp [XaO]
theorem XnI (t:TypeId) (k:IntKind) (x y:Int):XaO P .eql t (.int k x) (.int k y)=some (.bool (decide (x=y))):=X8Z rfl _
theorem XnO (t:TypeId) (k:IntKind) (x y:Int):XaO P .neq t (.int k x) (.int k y)=some (.bool (!decide (x=y))):=X8Z rfl _
theorem XnM (t:TypeId) (k:IntKind) (x y:Int):XaO P .lss t (.int k x) (.int k y)=some (.bool (decide (x<y))):=X8Z rfl _
theorem XnL (t:TypeId) (k:IntKind) (x y:Int):XaO P .leq t (.int k x) (.int k y)=some (.bool (decide (x≤y))):=X8Z rfl _
theorem XnK (t:TypeId) (k:IntKind) (x y:Int):XaO P .gtr t (.int k x) (.int k y)=some (.bool (decide (y<x))):=X8Z rfl _
theorem XnJ (t:TypeId) (k:IntKind) (x y:Int):XaO P .geq t (.int k x) (.int k y)=some (.bool (decide (y≤x))):=X8Z rfl _
theorem Xkb (t:TypeId) (x y:Bool):XaO P .eql t (.bool x) (.bool y)=oif (Xfl P t=true) (some (.bool (x == y))):=nrfl rfl
theorem Xkc (t:TypeId) (x y:Bool):XaO P .neq t (.bool x) (.bool y)=oif (Xfl P t=true) (some (.bool (!(x == y)))):=nrfl rfl
theorem Xsg (b:Bool):aun .not (.bool b)=some (.bool !b):=nrfl rfl
theorem Xsf (k:IntKind) (n:Int):aun .neg (.int k n)=some (.int k (k.wrap (0 - n))):=nrfl rfl
theorem Xo7 (k:IntKind) (x y:Int):Xvc (.int k x) (.int k y)=some (.int k (if y<x then y else x)):=X8Z rfl _
theorem Xo6 (k:IntKind) (x y:Int):Xvb (.int k x) (.int k y)=some (.int k (if x<y then y else x)):=X8Z rfl _
end
theorem X49 {α:Type} (x:Option α):oif True x=x:=if_pos trivial
theorem XtR (k:IntKind) (n:Int):(AV.int k n).one=true:=nrfl rfl
theorem XpK (b:Bool):(AV.bool b).one=true:=nrfl rfl
theorem XtT (m:Nat) (f:Nat→AV) (o:Nat):(AV.ptr m f o).one=true:=nrfl rfl
theorem Xx8 (n m:Nat) (f:Nat→AV) (t:Bool):(AV.sl n m f t).one=true:=nrfl rfl
theorem XtU (i v o:Nat):(AV.ref i v o).one=true:=nrfl rfl
theorem XtS (i v e o n:Nat):(AV.osl i v e o n).one=true:=nrfl rfl
theorem Xx6 (i:Nat):(AV.mp i).one=true:=nrfl rfl
theorem Xm8 (g:FuncId) (l:List AV):(AV.fn g l).one=true:=nrfl rfl
theorem Xl1 (l:List AV):(AV.agg l).cells=l:=nrfl rfl
theorem Xl2 (k:IntKind) (n:Int):AV.cells (.int k n)=[.int k n]:=nrfl rfl
theorem XlR (k:IntKind) (n:Int):AV.loose (.int k n)=.int k n:=nrfl rfl
theorem XiT (b:Bool):AV.cells (.bool b)=[.bool b]:=nrfl rfl
theorem Xjf (b:Bool):AV.loose (.bool b)=.bool b:=nrfl rfl
theorem Xl4 (m:Nat) (f:Nat→AV) (o:Nat):AV.cells (.ptr m f o)=[.ptr m f o]:=nrfl rfl
theorem Xoz (n m:Nat) (f:Nat→AV) (t:Bool):AV.cells (.sl n m f t)=[.sl n m f t]:=nrfl rfl
theorem Xpy (n m:Nat) (f:Nat→AV) (t:Bool):AV.loose (.sl n m f t)=.sl n m f false:=nrfl rfl
theorem Xl5 (i v o:Nat):AV.cells (.ref i v o)=[.ref i v o]:=nrfl rfl
theorem Xl3 (i v e o n:Nat):AV.cells (.osl i v e o n)=[.osl i v e o n]:=nrfl rfl
theorem XlS (i v e o n:Nat):AV.loose (.osl i v e o n)=.osl i v e o n:=nrfl rfl
theorem Xoy (i:Nat):AV.cells (.mp i)=[.mp i]:=nrfl rfl
theorem Xpx (i:Nat):AV.loose (.mp i)=.mp i:=nrfl rfl
theorem XkS (k:IntKind) (n:Int):AV.boxed (.int k n)=.int k n:=nrfl rfl
theorem XiS (b:Bool):AV.boxed (.bool b)=.bool b:=nrfl rfl
theorem XkU (m:Nat) (f:Nat→AV) (o:Nat):AV.boxed (.ptr m f o)=.ptr m f o:=nrfl rfl
theorem XkV (i v o:Nat):AV.boxed (.ref i v o)=.ref i v o:=nrfl rfl
theorem XkT (i v e o n:Nat):AV.boxed (.osl i v e o n)=.osl i v e o n:=nrfl rfl
theorem XkW (n m:Nat) (f:Nat→AV):AV.boxed (.sl n m f false)=.sl n m f false:=nrfl rfl
theorem XkX (n m:Nat) (f:Nat→AV):AV.boxed (.sl n m f true)=.sl n m f (n == 0):=nrfl rfl
theorem X8R {P:Program} {fn:Func} {str hcs:List Nat} {r:AV} {s:AS} {t:Nat} (hr:fn.results=#[.tmp t]) (h:X4B s.h (s.get t) r):RetOk (X2f P fn str hcs r) s :=
 ⟨s.get t,by simp [X7L,X6W,hr,X2a,X1F,X6D],h⟩
theorem XrA {P:Program} {fn:Func} {str hcs:List Nat} {r:AV} {s:AS} {t u:Nat} (hr:fn.results=#[.tmp t,.tmp u]) (h:X4B s.h (.tup [s.get t,s.get u]) r):RetOk (X2f P fn str hcs r) s :=
 ⟨.tup [s.get t,s.get u],by simp [X7L,X6W,hr,X2a,X1F,X6D],h⟩
theorem Xxk {P:Program} {fn:Func} {str hcs:List Nat} {b:Nat} {r:AV} {H:List AO} {s:AS} {t:Nat} (hr:fn.results=#[.tmp t]) (h:s.get t=r) (hH:s.h=H):RetOk (Xnr P fn str hcs b r H) s :=
 ⟨s.get t,by simp [X7L,Xlv,hr,X2a,X1F,X6D],h,hH⟩
theorem X1h {H:List AO} {a b:AV} (h:Settled b) (he:a=b):X4B H a b:=by subst he; exact h.sees H
theorem X9k {α:Type} {e:α→AV} {d:α} {l:List α} {H:List AO} {id ver n off:Nat} (he:∀ a,Settled (e a)) (ho:H[id]?=some (.row ver n (slF e d l))∨H[id]?=some (.con ver n (slF e d l))) (hn:l.length≤n) (hoff:off=0) :
  X4B H (.osl id ver 1 off l.length) (sl1 e d l):=by
 subst hoff
 exact X1e ho (by omega) (by omega) fun j _=>by rw [Nat.zero_add]; exact (he _).sees H
theorem X7S {l:List Int} {H:List AO} {id ver n:Nat} (ho:H[id]?=some (.row ver n (slF I 0 l))) (hn:l.length≤n):X4B H (.osl id ver 1 0 l.length) (X0f l):=X9k X08 (.inl ho) hn rfl
theorem X4x {α:Type} {e:α→AV} {d:α} {l:List α} {H:List AO} {a:AV} {id ver n m:Nat} {g:Nat→AV} (he:∀ a,Settled (e a)) (ha:a=.osl id ver 1 0 m) (ho:H[id]?=some (.row ver n g)) (hm:m=l.length) (hg:g=slF e d l) (hn:l.length≤n):X4B H a (sl1 e d l):=by
 subst ha; subst hm; subst hg; exact X9k he (.inl ho) hn rfl
theorem Xjz {H:List AO} {f g:Nat→AV} {t:Bool}:X4B H (.sl 0 0 f t) (.sl 0 0 g false):=by
 intro c v _ _ h
 cases h with
 | sl b base _ _ cap _ _ us hS hc hr hn ht=>exact .slz _ _ _ _ (by simp)
 | slz a cap _ _ ht=>exact .slz _ _ _ _ (by simp)
theorem Xht (a:AV):(∀ j,j<1→(ofL [a] j).one=true)=(a.one=true):=by
 apply propext
 constructor
 ·intro h; exact h 0 (by omega)
 ·intro h j hj
  obtain rfl:j=0:=by omega
  exact h
theorem X7c (l:List Int) (x:Int):X2H l.length (slF I 0 l) 1 (ofL [.int .i64 x])=slF I 0 (l ++ [x]):=by
 have:=Xcg I 0 l x
 rw [Nat.mul_one,Nat.mul_one] at this
 exact this
theorem XhK {c c':Ctx} (hw:c'.w=c.w) (hS:c'.S=c.S) (hγ:c'.γ=c.γ) (hi:∀ id,inf c'.H id=inf c.H id) (hd:∀ id:Nat,c'.H[id]?=some AO.dead↔c.H[id]?=some AO.dead)
  (hm:∀ (id:Nat) k g,c.H[id]?=some (AO.map k g)→c'.H[id]?=some (AO.map k g)) {v:Value} {a:AV} (h:Rep c v a):Rep c' v a :=
 h.ext (fun b hb=>by rw [hS]; exact hb) (fun b _=>by rw [hw]) (by
  intro id o ho
  have key:∀ v,inf c.H id=some v→(c'.H[id]?=some .dead∨∃ v',Ab.inf c'.H id=some v'∧(v<v'∨(v'=v∧c'.γ id=c.γ id))) :=
   fun v hv=>.inr ⟨v,by rw [hi]; exact hv,.inr ⟨rfl,by rw [hγ]⟩⟩
  cases o with
  | unborn=>trivial
  | dead=>exact (hd id).2 ho
  | row v _ _=>exact key v (by simp [inf,ho,AO.info])
  | con v _ _=>exact key v (by simp [inf,ho,AO.info])
  | map k g=>exact .inr ⟨⟨k,g,hm id k g ho⟩,by rw [hγ]⟩)
theorem X1v {m:Nat} {s:AS} (id:Nat) {ver n:Nat} {f:Nat→AV} (n':Nat) (g:Nat→AV) (ho:s.h[id]?=some (.row ver n f)) (hn':n'≤n) (hfg:∀ j,j<n'→f j=g j):Sub m s { s with h:=s.h.set id (.row ver n' g) }:=by
 intro N c a hst
 have hH:=hst.heap
 rw [← hH] at ho
 have hlt:=(List.getElem?_eq_some_iff.1 ho).1
 have hat:(c.H.set id (.row ver n' g))[id]?=some (.row ver n' g):=by simp [hlt]
 have hoth:∀ i,i≠id→(c.H.set id (AO.row ver n' g))[i]?=c.H[i]?:=fun i hi=>List.getElem?_set_ne (Ne.symm hi)
 let c':Ctx:=⟨c.w,c.S,c.γ,c.H.set id (.row ver n' g)⟩
 have hinf:∀ i,inf c'.H i=inf c.H i:=fun i=>by
  by_cases hi:i=id
  ·subst hi; simp [inf,c',hat,ho,AO.info]
  ·simp [inf,c',hoth i hi]
 have hdead:∀ i:Nat,c'.H[i]?=some AO.dead↔c.H[i]?=some AO.dead:=fun i=>by
  by_cases hi:i=id
  ·subst hi; simp [c',hat,ho]
  ·simp [c',hoth i hi]
 have hmap:∀ (i:Nat) k q,c.H[i]?=some (AO.map k q)↔c'.H[i]?=some (AO.map k q):=fun i k q=>by
  by_cases hi:i=id
  ·subst hi; simp [c',hat,ho]
  ·simp [c',hoth i hi]
 have hrep:∀ {v a},Rep c v a→Rep c' v a:=fun hv=>XhK (c:=c) (c':=c') rfl rfl rfl hinf hdead (fun i k q=>(hmap i k q).1) hv
 have howns:∀ b,X6K c' b→X6K c b:=by
  rintro b ⟨i,o,sz,hoi,hown,hg⟩
  by_cases hi:i=id
  ·subst hi; exact ⟨i,_,sz,ho,rfl,hg⟩
  ·exact ⟨i,o,sz,by rw [← hoth i hi]; exact hoi,hown,hg⟩
 have hext:Ext c c':=by
  refine ⟨?_,fun b h=>h,fun b h=>.inl h,fun b h=>.inr (howns b h),fun _ _ _=>rfl,Nat.le_refl _,rfl,rfl,rfl⟩
  intro i o hoi
  have key:∀ v,inf c.H i=some v→(c'.H[i]?=some .dead∨∃ v',Ab.inf c'.H i=some v'∧(v<v'∨(v'=v∧c'.γ i=c.γ i))) :=
   fun v hv=>.inr ⟨v,by rw [hinf]; exact hv,.inr ⟨rfl,rfl⟩⟩
  cases o with
  | unborn=>trivial
  | dead=>exact (hdead i).2 hoi
  | row v _ _=>exact key v (by simp [inf,hoi,AO.info])
  | con v _ _=>exact key v (by simp [inf,hoi,AO.info])
  | map k q=>exact .inr ⟨⟨k,q,(hmap i k q).1 hoi⟩,rfl⟩
 refine ⟨c',rfl,hext.toB m,hst.size,hst.defers,fun i=>hrep (hst.slots i),by simp [c',hH],?_⟩
 refine ⟨?_,?_,?_,?_,hst.hrel.bound⟩
 ·intro i v k q hoi
  by_cases hi:i=id
  ·subst hi
   simp only [c'] at hoi
   rw [hat] at hoi; cases hoi
   rcases hst.hrel.row i ver n f ho with h | ⟨b,sz,cs,el,h1,h2,h3,h4,h5,h6⟩
   ·exact .inl ⟨h.1,by omega⟩
   ·exact .inr ⟨b,sz,cs,el,h1,h2,h3,by omega,h5,fun j hj=>by rw [← hfg j hj]; exact hrep (h6 j (by omega))⟩
  ·simp only [c'] at hoi
   rw [hoth i hi] at hoi
   rcases hst.hrel.row i v k q hoi with h | ⟨b,sz,cs,el,h1,h2,h3,h4,h5,h6⟩
   ·exact .inl h
   ·exact .inr ⟨b,sz,cs,el,h1,h2,h3,h4,h5,fun j hj=>hrep (h6 j hj)⟩
 ·intro i v k q hoi
  by_cases hi:i=id
  ·subst hi; simp only [c'] at hoi; rw [hat] at hoi; cases hoi
  ·simp only [c'] at hoi
   rw [hoth i hi] at hoi
   rcases hst.hrel.con i v k q hoi with h | ⟨b,sz,cs,el,fr,h1,h2,h3,h4,h5,h6⟩
   ·exact .inl h
   ·exact .inr ⟨b,sz,cs,el,fr,h1,h2,h3,h4,h5,fun j hj=>hrep (h6 j hj)⟩
 ·intro i k q hoi
  obtain ⟨b,sz,es,cl,h1,h2,h3,h4⟩:=hst.hrel.map i k q ((hmap i k q).2 hoi)
  exact ⟨b,sz,es,cl,h1,h2,h3,h4.ext fun v a hv=>hrep hv⟩
 ·intro i i' o o' b sz sz' hoi hoi' h1 h2 hg hg'
  have key:∀ (i:Nat) o,c'.H[i]?=some o→o.owned=true→∃ o2:AO,c.H[i]?=some o2∧o2.owned=true:=by
   intro i o hoi h
   by_cases hi:i=id
   ·subst hi; exact ⟨_,ho,rfl⟩
   ·exact ⟨o,by rw [← hoth i hi]; exact hoi,h⟩
  obtain ⟨o2,k1,k2⟩:=key i o hoi h1
  obtain ⟨o3,k3,k4⟩:=key i' o' hoi' h2
  exact hst.hrel.inj _ _ _ _ _ _ _ k1 k3 k2 k4 hg hg'
def okS (n0:Nat) (hid:List Nat) (sl:List AV) (tm:List (Nat×AV)) (h:List AO):AS:=⟨n0,hid,sl,tm,h⟩
def mkS (s:AS):AS:=s
theorem XtK (n0:Nat) (hid:List Nat) (sl:List AV) (tm:List (Nat×AV)) (h:List AO):mkS ⟨n0,hid,sl,tm,h⟩=okS n0 hid sl tm h:=nrfl rfl
def X1L (s:AS) (K:AS→Prop):Prop:=K s
@[congr] theorem normS_congr {s s':AS} {K:AS→Prop} (h:s=s'):X1L s K=X1L s' K:=by rw [h]
theorem Xhr (n0:Nat) (hid:List Nat) (sl:List AV) (tm:List (Nat×AV)) (h:List AO) (K:AS→Prop):X1L (okS n0 hid sl tm h) K=K ⟨n0,hid,sl,tm,h⟩:=nrfl rfl
section
variable (X:Env) (n:Nat) (k:List Item) (s:AS)
theorem Xin (id:Nat) (ops:List Oper):vc X (n+1) (.code (.region id ops.toArray false) :: k) s=(X1L (mkS s.clr) fun s=>X0x X n ⟨ops.toArray,XeN X.str id,true,none,0,0⟩ ops k s):=nrfl rfl
theorem Xnz (id:Nat) (ops:List Oper):vc X (n+1) (.code (.region id ops.toArray true) :: k) s =
 (X1L (mkS (s.frz (XaW X.str id))) fun s=>X1L (mkS (Xfx (X.hcs.contains id) ops.toArray s)) fun s'=>X0x X n ⟨ops.toArray,XeN X.str id,X.hcs.contains id,some s.h.length,0,s.h.length⟩ ops k s'):=nrfl rfl
theorem XtD:s.frz []=s:=nrfl rfl
theorem Xpj (i:Nat) (l:List Nat):s.frz (i :: l)=(XxQ s (s.get i)).frz l:=nrfl rfl
theorem Xpg (id ver off:Nat):XxQ s (.ref id ver off)=Xve s id s.h[id]?:=nrfl rfl
theorem Xpi (n0:Nat) (hid:List Nat) (sl:List AV) (tm:List (Nat×AV)) (h:List AO) (id ver n:Nat) (f:Nat→AV):Xve ⟨n0,hid,sl,tm,h⟩ id (some (.row ver n f))=⟨n0,hid,sl,tm,h.set id (.con ver n f)⟩:=nrfl rfl
theorem Xph (n0:Nat) (hid:List Nat) (sl:List AV) (tm:List (Nat×AV)) (h:List AO) (id ver n:Nat) (f:Nat→AV):Xve ⟨n0,hid,sl,tm,h⟩ id (some (.con ver n f))=⟨n0,hid,sl,tm,h⟩:=nrfl rfl
theorem XlE (id:Nat):XaW [] id=[]:=nrfl rfl
theorem Xj7 (n:Nat) (l:List Nat) (id:Nat):XaW (n :: l) id=if n / 10000000=id+1 then n % 10000000 :: XaW l id else XaW l id:=nrfl rfl
variable (all:Array Oper) (st:Nat→Bool) (hc:Bool) (bs:Option Nat) (i nx:Nat) (os:List Oper) (d:Option Nat) (t:TypeId) (p:String) (af:Array Edge) (g:Option (Nat×Bool))
theorem Xil (op:Op) (j:Nat):X0x X (n+1) ⟨all,st,hc,bs,i,nx⟩ (⟨d,op,t,p,af,some (j,true)⟩ :: os) k s =
 dAt (X6V all j) fun e=>gAt (s.get e) (X1L (mkS (s.fix e (.bool true))) fun s=>X1P X n ⟨all,st,hc,bs,i,nx⟩ ⟨d,op,t,p,af,some (j,true)⟩ os k s)
  (X1L (mkS ((s.fix e (.bool false)).putO d X11)) fun s=>X0x X n (Md.next ⟨all,st,hc,bs,i,nx⟩ ⟨d,op,t,p,af,some (j,true)⟩) os k s)
  (X1L (mkS (s.putO d X11)) fun s=>X0x X n (Md.next ⟨all,st,hc,bs,i,nx⟩ ⟨d,op,t,p,af,some (j,true)⟩) os k s):=Xng X n k s all st hc bs i nx os d op t p af j
theorem Xik (op:Op) (j:Nat):X0x X (n+1) ⟨all,st,hc,bs,i,nx⟩ (⟨d,op,t,p,af,some (j,false)⟩ :: os) k s =
 dAt (X6V all j) fun e=>gAt (s.get e) (X1L (mkS ((s.fix e (.bool true)).putO d X11)) fun s=>X0x X n (Md.next ⟨all,st,hc,bs,i,nx⟩ ⟨d,op,t,p,af,some (j,false)⟩) os k s)
  (X1L (mkS (s.fix e (.bool false))) fun s=>X1P X n ⟨all,st,hc,bs,i,nx⟩ ⟨d,op,t,p,af,some (j,false)⟩ os k s)
  (X1L (mkS (s.putO d X11)) fun s=>X0x X n (Md.next ⟨all,st,hc,bs,i,nx⟩ ⟨d,op,t,p,af,some (j,false)⟩) os k s):=Xnf X n k s all st hc bs i nx os d op t p af j
theorem Xij (M:Md) (f:Operand) (args:Array Operand) (ts:Array TypeId) :
 X1P X (n+1) M ⟨d,.call { callee:=.value f,args:=args,argTypes:=ts },t,p,af,g⟩ os k s =
  Xvk X M ⟨d,.call { callee:=.value f,args:=args,argTypes:=ts },t,p,af,g⟩
   (fun s'=>X1L (mkS s') fun s'=>X0x X n (M.next ⟨d,.call { callee:=.value f,args:=args,argTypes:=ts },t,p,af,g⟩) os k s') .mk (s.ev f) (args.toList.map s.ev) s:=nrfl rfl
theorem XnB:vc X 0 k s=Xv6 X k .mk s:=nrfl (by unfold vc; rfl)
theorem XrS:vc X (n+1) (.code .ret :: k) s=XxN X .mk s:=nrfl rfl
theorem XrR:vc X (n+1) [] s=RetN X .mk s:=nrfl rfl
theorem XnA (b:Code):vc X (n+1) (.code (.loop b) :: k) s=Xv6 X (.code (.loop b) :: k) .mk s:=nrfl rfl
theorem Xim (b:Code):vc X (n+1) (.inLoop b :: k) s=Xv6 X (.inLoop b :: k) .mk s:=nrfl rfl
theorem Xnx (x y z:Operand):X1P X (n+1) ⟨all,st,hc,bs,i,nx⟩ ⟨d,.pick x y z,t,p,af,g⟩ os k s =
  pAt (s.ev x) (X1L (mkS (s.putO d (s.ev y))) fun s=>X0x X n ⟨all,st,hc,bs,i+1,nx⟩ os k s) (X1L (mkS (s.putO d (s.ev z))) fun s=>X0x X n ⟨all,st,hc,bs,i+1,nx⟩ os k s):=by
 rw [XpL]; rfl
theorem XeY (x:Operand) (j:Nat):X1P X (n+1) ⟨all,st,hc,bs,i,nx⟩ ⟨d,.extract x j,t,p,af,g⟩ os k s=xAt (s.ev x) j fun v=>(X1L (mkS (s.putO d v)) fun s=>X0x X n ⟨all,st,hc,bs,i+1,nx⟩ os k s):=by
 rw [XfT]; rfl
theorem Xnw (x:Operand):X1P X (n+1) ⟨all,st,hc,bs,i,nx⟩ ⟨d,.move x,t,p,af,g⟩ os k s=(X1L (mkS (s.putO d (s.ev x))) fun s=>X0x X n ⟨all,st,hc,bs,i+1,nx⟩ os k s):=by
 first | (rw [Xme]; rfl) | rw [Xme]
theorem Xig (x:Operand):X1P X (n+1) ⟨all,st,hc,bs,i,nx⟩ ⟨d,.assign x,t,p,af,g⟩ os k s=(X1L (mkS (s.putO d (s.ev x))) fun s=>X0x X n ⟨all,st,hc,bs,i+1,nx⟩ os k s):=by
 first | (rw [Xek]; rfl) | rw [Xek]
theorem Xnu (u:TypeId) (x:Operand):X1P X (n+1) ⟨all,st,hc,bs,i,nx⟩ ⟨d,.load u x,t,p,af,g⟩ os k s=X0S (X2O X.P (st i) u (s.ev x) s.h) fun v=>(X1L (mkS (s.putO d v)) fun s=>X0x X n ⟨all,st,hc,bs,i+1,nx⟩ os k s):=by
 first | (rw [Xmc]; rfl) | rw [Xmc]
theorem XrM (o:BinOp) (u u':TypeId) (x y:Operand):X1P X (n+1) ⟨all,st,hc,bs,i,nx⟩ ⟨d,.binOp o u x y u',t,p,af,g⟩ os k s=X0S (Xf0 X.P o u y (s.ev x) (s.ev y)) fun v=>(X1L (mkS (s.putO d v)) fun s=>X0x X n ⟨all,st,hc,bs,i+1,nx⟩ os k s):=by
 first | (rw [Xrs]; rfl) | rw [Xrs]
theorem XvE (o:UnOp) (u:TypeId) (x:Operand):X1P X (n+1) ⟨all,st,hc,bs,i,nx⟩ ⟨d,.unOp o u x,t,p,af,g⟩ os k s=X0S (aun o (s.ev x)) fun v=>(X1L (mkS (s.putO d v)) fun s=>X0x X n ⟨all,st,hc,bs,i+1,nx⟩ os k s):=by
 first | (rw [Xx9]; rfl) | rw [Xx9]
theorem Xns (u u':TypeId) (x:Operand):X1P X (n+1) ⟨all,st,hc,bs,i,nx⟩ ⟨d,.convert u u' x,t,p,af,g⟩ os k s=X0S (Xit X.P u u' (s.ev x)) fun v=>(X1L (mkS (s.putO d v)) fun s=>X0x X n ⟨all,st,hc,bs,i+1,nx⟩ os k s):=by
 first | (rw [Xma]; rfl) | rw [Xma]
theorem Xc1 (u:TypeId) (x y:Operand):X1P X (n+1) ⟨all,st,hc,bs,i,nx⟩ ⟨d,.indexAddr u x y,t,p,af,g⟩ os k s=X0S (X9w X.P u (s.ev x) (s.ev y)) fun v=>(X1L (mkS (s.putO d v)) fun s=>X0x X n ⟨all,st,hc,bs,i+1,nx⟩ os k s):=by
 first | (rw [X8J]; rfl) | rw [X8J]
theorem Xny (u:TypeId) (x:Operand):X1P X (n+1) ⟨all,st,hc,bs,i,nx⟩ ⟨d,.sliceToArrayPointer u x,t,p,af,g⟩ os k s=X0S (XiL X.P u (s.ev x)) fun v=>(X1L (mkS (s.putO d v)) fun s=>X0x X n ⟨all,st,hc,bs,i+1,nx⟩ os k s):=by
 first | (rw [Xmf]; rfl) | rw [Xmf]
theorem XjZ (u:TypeId) (x y:Operand):X1P X (n+1) ⟨all,st,hc,bs,i,nx⟩ ⟨d,.index u x y,t,p,af,g⟩ os k s=X0S (Xv8 X.P u (s.ev x) (s.ev y)) fun v=>(X1L (mkS (s.putO d v)) fun s=>X0x X n ⟨all,st,hc,bs,i+1,nx⟩ os k s):=by
 first | (rw [Xhw]; rfl) | rw [Xhw]
theorem Xc0 (u:TypeId) (x:Operand) (j:Nat):X1P X (n+1) ⟨all,st,hc,bs,i,nx⟩ ⟨d,.fieldAddr u x j,t,p,af,g⟩ os k s=X0S (X87 X.P u (s.ev x) j) fun v=>(X1L (mkS (s.putO d v)) fun s=>X0x X n ⟨all,st,hc,bs,i+1,nx⟩ os k s):=by
 first | (rw [X8I]; rfl) | rw [X8I]
theorem XjY (u:TypeId) (ps:Array (Nat×Operand)):X1P X (n+1) ⟨all,st,hc,bs,i,nx⟩ ⟨d,.build u ps,t,p,af,g⟩ os k s=X0S (Xb0 X.P u (ps.toList.map fun q=>(q.1,s.ev q.2))) fun v=>(X1L (mkS (s.putO d v)) fun s=>X0x X n ⟨all,st,hc,bs,i+1,nx⟩ os k s):=by
 first | (rw [Xhv]; rfl) | rw [Xhv]
theorem XaN (u:TypeId) (m:Nat) (ps:Array (Nat×Operand)):X1P X (n+1) ⟨all,st,hc,bs,i,nx⟩ ⟨d,.buildSlice u m ps,t,p,af,g⟩ os k s=X0S (X4R X.P u m (ps.toList.map fun q=>(q.1,s.ev q.2))) fun v=>(X1L (mkS (s.putO d v)) fun s=>X0x X n ⟨all,st,hc,bs,i+1,nx⟩ os k s):=by
 first | (rw [X7z]; rfl) | rw [X7z]
theorem Xk2 (u:TypeId) (x y:Operand):X1P X (n+1) ⟨all,st,hc,bs,i,nx⟩ ⟨d,.store u x y,t,p,af,g⟩ os k s=X0S (X5Z X.P (st i) u (s.ev x) (s.ev y) s.h) fun h'=>(X1L (mkS (({ s with h:=h' }:AS).putO d X11)) fun s=>X0x X n ⟨all,st,hc,bs,i+1,nx⟩ os k s):=by
 first | (rw [Xhz]; rfl) | rw [Xhz]
theorem Xc2 (u:TypeId) (x y z:Operand):X1P X (n+1) ⟨all,st,hc,bs,i,nx⟩ ⟨d,.mapUpdate u x y z,t,p,af,g⟩ os k s=X0S (X2r X.P u (s.ev x) (s.ev y) (s.ev z) s.h) fun h'=>(X1L (mkS (({ s with h:=h' }:AS).putO d X11)) fun s=>X0x X n ⟨all,st,hc,bs,i+1,nx⟩ os k s):=by
 first | (rw [X8K]; rfl) | rw [X8K]
theorem Xih (u:TypeId) (x y:Operand) (b:Bool):X1P X (n+1) ⟨all,st,hc,bs,i,nx⟩ ⟨d,.lookup u x y b,t,p,af,g⟩ os k s=X0S (X4l X.P u (s.ev x) (s.ev y) b s.h) fun v=>(X1L (mkS (s.putO d v)) fun s=>X0x X n ⟨all,st,hc,bs,i+1,nx⟩ os k s):=by
 first | (rw [Xel]; rfl) | rw [Xel]
theorem Xdr (x:Operand):X1P X (n+1) ⟨all,st,hc,bs,i,nx⟩ ⟨d,.nilCheck x,t,p,af,g⟩ os k s=((s.ev x).isPtr=true∧(X1L (mkS (s.putO d (s.ev x))) fun s=>X0x X n ⟨all,st,hc,bs,i+1,nx⟩ os k s)):=by
 first | (rw [Xa2]; rfl) | rw [Xa2]
theorem Xk1 (u:TypeId) (x:Operand) (lo hi:Option Operand):X1P X (n+1) ⟨all,st,hc,bs,i,nx⟩ ⟨d,.slice u x lo hi none,t,p,af,g⟩ os k s =
  X0S (X8D X.P u (s.ev x) (lo.map s.ev) (hi.map s.ev) none) fun v=>(X1L (mkS (s.putO d v)) fun s=>X0x X n ⟨all,st,hc,bs,i+1,nx⟩ os k s):=by
 first | (rw [Xhy]; rfl) | rw [Xhy]
theorem Xii (u:TypeId) (x:Operand) (lo:Option Operand) (hi mx:Operand):X1P X (n+1) ⟨all,st,hc,bs,i,nx⟩ ⟨d,.slice u x lo (some hi) (some mx),t,p,af,g⟩ os k s =
  X0S (X8D X.P u (s.ev x) (lo.map s.ev) (some (s.ev hi)) (some (s.ev mx))) fun v=>(X1L (mkS (s.putO d v)) fun s=>X0x X n ⟨all,st,hc,bs,i+1,nx⟩ os k s):=by
 first | (rw [Xem]; rfl) | rw [Xem]
theorem Xdq (f:FuncId) (caps:Array Operand):X1P X (n+1) ⟨all,st,hc,bs,i,nx⟩ ⟨d,.makeFunc (.func f) #[] caps,t,p,af,g⟩ os k s=(X1L (mkS (s.putO d (.fn f (caps.toList.map s.ev)))) fun s=>X0x X n ⟨all,st,hc,bs,i+1,nx⟩ os k s):=by
 first | (rw [Xa1]; rfl) | rw [Xa1]
theorem XrO (x:Operand) (u:TypeId):X1P X (n+1) ⟨all,st,hc,bs,i,nx⟩ ⟨d,.call { callee:=.builtin .len,args:=#[x],argTypes:=#[u] },t,p,af,g⟩ os k s =
  X0S (Xs4 X.P u (s.ev x)) fun v=>(X1L (mkS (s.putO d v)) fun s=>X0x X n ⟨all,st,hc,bs,i+1,nx⟩ os k s):=by
 first | (rw [Xru]; rfl) | rw [Xru]
theorem XrQ (x y:Operand) (us:Array TypeId):X1P X (n+1) ⟨all,st,hc,bs,i,nx⟩ ⟨d,.call { callee:=.builtin .min,args:=#[x,y],argTypes:=us },t,p,af,g⟩ os k s =
  X0S (Xvc (s.ev x) (s.ev y)) fun v=>(X1L (mkS (s.putO d v)) fun s=>X0x X n ⟨all,st,hc,bs,i+1,nx⟩ os k s):=by
 first | (rw [Xrw]; rfl) | rw [Xrw]
theorem XrP (x y:Operand) (us:Array TypeId):X1P X (n+1) ⟨all,st,hc,bs,i,nx⟩ ⟨d,.call { callee:=.builtin .max,args:=#[x,y],argTypes:=us },t,p,af,g⟩ os k s =
  X0S (Xvb (s.ev x) (s.ev y)) fun v=>(X1L (mkS (s.putO d v)) fun s=>X0x X n ⟨all,st,hc,bs,i+1,nx⟩ os k s):=by
 first | (rw [Xrv]; rfl) | rw [Xrv]
theorem Xif (x y:Operand) (u:TypeId):X1P X (n+1) ⟨all,st,hc,bs,i,nx⟩ ⟨d,.call { callee:=.builtin .append,args:=#[x,y],argTypes:=#[u,u] },t,p,af,g⟩ os k s =
  X0S (X31 X.P u (s.ev x) (s.ev y) s.h) fun r=>(X1L (mkS (({ s with h:=r.2 }:AS).putO d r.1)) fun s=>X0x X n ⟨all,st,hc,bs,i+1,nx⟩ os k s):=by
 first | (rw [Xej]; rfl) | rw [Xej]
theorem Xnt (x y:Operand) (u u':TypeId):X1P X (n+1) ⟨all,st,hc,bs,i,nx⟩ ⟨d,.call { callee:=.builtin .copy,args:=#[x,y],argTypes:=#[u,u'] },t,p,af,g⟩ os k s =
  X0S (XaP X.P u (s.ev x) (s.ev y) s.h) fun r=>(X1L (mkS (({ s with h:=r.2 }:AS).putO d r.1)) fun s=>X0x X n ⟨all,st,hc,bs,i+1,nx⟩ os k s):=by
 first | (rw [Xmb]; rfl) | rw [Xmb]
theorem XjX (u:TypeId):X1P X (n+1) ⟨all,st,hc,none,i,nx⟩ ⟨d,.alloc u,t,p,af,g⟩ os k s =
  X0S (X52 X.P none u s.h) fun r=>(X1L (mkS (({ s with h:=r.2 }:AS).putO d r.1)) fun s=>X0x X n ⟨all,st,hc,none,i+1,nx⟩ os k s):=by
 first | (rw [Xhu]; rfl) | rw [Xhu]
theorem XrN (u:TypeId) (x:Operand):X1P X (n+1) ⟨all,st,hc,none,i,nx⟩ ⟨d,.box u x,t,p,af,g⟩ os k s =
  X0S (Xnm none (s.ev x) s.h) fun r=>(X1L (mkS (({ s with h:=r.2 }:AS).putO d r.1)) fun s=>X0x X n ⟨all,st,hc,none,i+1,nx⟩ os k s):=by
 first | (rw [Xrt]; rfl) | rw [Xrt]
theorem Xnv (u:TypeId) (x y:Operand):X1P X (n+1) ⟨all,st,hc,none,i,nx⟩ ⟨d,.makeSlice u x y,t,p,af,g⟩ os k s =
  X0S (X7b X.P none u (s.ev x) (s.ev y) s.h) fun r=>(X1L (mkS (({ s with h:=r.2 }:AS).putO d r.1)) fun s=>X0x X n ⟨all,st,hc,none,i+1,nx⟩ os k s):=by
 first | (rw [Xmd]; rfl) | rw [Xmd]
theorem XeZ (u:TypeId):X1P X (n+1) ⟨all,st,hc,none,i,nx⟩ ⟨d,.makeMap u none,t,p,af,g⟩ os k s =
  X0S (X5Y X.P none u s.h) fun r=>(X1L (mkS (({ s with h:=r.2 }:AS).putO d r.1)) fun s=>X0x X n ⟨all,st,hc,none,i+1,nx⟩ os k s):=by
 first | (rw [Xbs]; rfl) | rw [Xbs]
variable (b:Nat)
theorem Xie (u:TypeId):X1P X (n+1) ⟨all,st,hc,some b,i,nx⟩ ⟨d,.alloc u,t,p,af,g⟩ os k s =
  (s.h[nx]?=some .unborn∧X0S (X52 X.P (some nx) u s.h) fun r=>(X1L (mkS (({ s with h:=r.2 }:AS).putO d r.1)) fun s=>X0x X n ⟨all,st,hc,some b,i+1,nx+1⟩ os k s)):=by
 first | (rw [Xei]; rfl) | rw [Xei]
theorem Xk0 (u:TypeId) (x y:Operand):X1P X (n+1) ⟨all,st,hc,some b,i,nx⟩ ⟨d,.makeSlice u x y,t,p,af,g⟩ os k s =
  (s.h[nx]?=some .unborn∧X0S (X7b X.P (some nx) u (s.ev x) (s.ev y) s.h) fun r=>(X1L (mkS (({ s with h:=r.2 }:AS).putO d r.1)) fun s=>X0x X n ⟨all,st,hc,some b,i+1,nx+1⟩ os k s)):=by
 first | (rw [Xhx]; rfl) | rw [Xhx]
end
theorem Xx3 (l:List AV) (j:Nat):ofL l j=l.getD j .any:=nrfl rfl
theorem Xm9 (a:AV):(∀ j,j<1→(([a]:List AV).getD j .any).one=true)=(a.one=true):=Xht a
theorem Xr0 (a:AV):XgB [a]=fun _=>a:=nrfl rfl
theorem X00 {X:Env} (n:Nat) {k:List Item} {s:AS} (h:X1L (mkS s) fun s=>vc X n k s):Run X k s:=XqJ n h
end
end Go.Ab
