/- A layer of abstract values and heaps over the model; what is proved here is that its steps and contracts are sound, for every program. -/
import Derived.Test.YtefjhgcndhepeaaGreatAb2
set_option linter.unusedSimpArgs false
set_option linter.unusedVariables false
namespace Go.Ab
open Go Go.RowKit
noncomputable section
def J4 (P:Program) (fn:Func) (str hcs:List Nat) (r:AV):Env:=⟨P,fn,str,hcs,0,none,[],none,fun v H=>Jn H v r⟩
@[simp] theorem resX_P (P:Program) (fn:Func) (str hcs:List Nat) (r:AV) (s:AS):PJ (J4 P fn str hcs r) s=Ku P fn s:=rfl
def AS.start (n0:Nat) (hid:List Nat) (args:List AV) (H:List AO):AS:=⟨n0,hid,args ++ List.replicate (n0 - args.length) .any,[],H⟩
theorem fI {N n0:Nat} {hid:List Nat} {args:List AV} {c:Ctx} {vs:Array Value} (hr:HRel c) (hv:RepL c vs args) (hlen:args.length≤N) :
  St N c { tmps:=vs ++ Array.replicate (N - vs.size) undef,defers:=[] } (AS.start n0 hid args c.H):=by
 refine ⟨by simp; have:=hv.1; omega,rfl,fun i=>?_,rfl,hr⟩
 unfold AS.get AS.start
 simp only
 split
 ·by_cases hi:i<args.length
  ·have e1:(args ++ List.replicate (n0 - args.length) AV.any).getD i .any=args.getD i .any:=by
    simp [List.getD_eq_getElem?_getD,List.getElem?_append_left hi]
   have e2:(vs ++ Array.replicate (N - vs.size) undef).getD i undef=vs.getD i undef:=by
    simp [Array.getD_eq_getD_getElem?,Array.getElem?_append_left (show i<vs.size by rw [hv.1]; exact hi)]
   rw [e1,e2]; exact hv.2 i hi
  ·have e1:(args ++ List.replicate (n0 - args.length) AV.any).getD i .any=.any:=by
    rw [List.getD_eq_getElem?_getD,List.getElem?_append_right (by omega),List.getElem?_replicate]
    split <;> rfl
   rw [e1]; exact .any _
 ·exact .any _
theorem DI {X:Env} {f:FuncId} {body:Code} (hf:X.P.funcs[f]?=some X.fn) (hb:X.fn.body=some body) (hm:X.P.follows .mixedOrders=true) (hok:Qj X.fn.ntmps X.str X.hcs body=true) (hn:X.rnd=none)
  {c:Ctx} {vs:Array Value} {args:List AV} (hr:HRel c) (hv:RepL c vs args) (hlen:args.length≤X.fn.ntmps) {n0:Nat} {hid:List Nat} (h:Run X [.code body] (AS.start n0 hid args c.H)) (htok:∀ p∈X.tok,TokOk c p∧p.ce.H.length≤X.base) (hout:∀ l r r1,X.out=some (l,r,r1)→Kept c l (.loop r))
  {R:Ending→World→Prop} (hR:∀ v r c',Rep c' v r→HRel c'→RM X c c'→X.Q r c'.H→R (.returned v) c'.w):Calls X.P f vs c.w R:=by
 intro cs
 let b:Frame:={ (default:Frame) with fn:=f,kind:=.normal,roundOf:=none }
 have henter:Frame.enter X.P f vs .normal=b.atR { ({ tmps:=vs ++ Array.replicate (X.fn.ntmps - vs.size) undef,defers:=[] }:Act) with defers:=[] } [.code body]:=by
  simp [Frame.enter,Frame.atR,hf,hb,b]
 obtain ⟨v,fr,r,c',h1,h2,h4,h5,h6,h6',h7⟩:=h hm (by intro i hi; simp at hi; subst hi; exact hok) (by rw [hn]; simp) c c _ [] (fI hr hv hlen) ⟨(Ext.refl c).toB _,htok,fun l r e=>(by rw [hn] at e; cases e),trivial,fun l r r1 e _=>hout l r r1 e⟩ b cs hf rfl (by rw [hn]; rfl)
 rw [← henter] at h1
 unfold gS at h2
 rw [hn] at h2
 exact ⟨.returned v,c'.w,fr,hR v r c' h4 h5 h6 h7,h1,h2.1,h2.2⟩
theorem Zc {X:Env} {f:FuncId} {body:Code} (hf:X.P.funcs[f]?=some X.fn) (hb:X.fn.body=some body) (hm:X.P.follows .mixedOrders=true) (hok:Qj X.fn.ntmps X.str X.hcs body=true) (hn:X.rnd=none)
  {c:Ctx} {vs:Array Value} {args:List AV} (hr:HRel c) (hv:RepL c vs args) (hlen:args.length≤X.fn.ntmps) {n0:Nat} {hid:List Nat} (h:Run X [.code body] (AS.start n0 hid args c.H)) (htok:∀ p∈X.tok,TokOk c p∧p.ce.H.length≤X.base)
  {R:Ending→World→Prop} (hR:∀ v r c',Rep c' v r→HRel c'→ExtB X.base c c'→X.Q r c'.H→R (.returned v) c'.w) (ho:X.out=none:=by rfl):Calls X.P f vs c.w R :=
 DI hf hb hm hok hn hr hv hlen h htok (fun l r r1 e=>by rw [ho] at e; cases e) fun v r c' h1 h2 h3 h4=>hR v r c' h1 h2 (by rw [Ew ho] at h3; exact h3) h4
theorem PureCall.intro {P:Program} {f:FuncId} {fn:Func} {body:Code} (he:ZZ P f) (hf:P.funcs[f]?=some fn) (hb:fn.body=some body) (hm:P.follows .mixedOrders=true) {args:List AV} {r:AV}
  (n0:Nat) (hid str hcs:List Nat) (hok:Qj fn.ntmps str hcs body=true) (hlen:args.length≤fn.ntmps) (h:Run (J4 P fn str hcs r) [.code body] (AS.start n0 hid args [])):PureCall P f args r:=by
 refine ⟨he,fun w S vs hS hv=>?_⟩
 refine Zc (X:=J4 P fn str hcs r) (c:=.bare w S) hf hb hm hok rfl (Wk hS) hv hlen h (fun p hp=>absurd hp (List.not_mem_nil)) ?_
 intro v r' c' h1 h2 h3 h4
 refine ⟨v,Lc c',rfl,h4 c' v rfl h2 h1,fun b hb=>hb.elim (h2.bound b) h2.ownLt,?_⟩
 exact ⟨fun id o ho=>by simp [Ctx.bare] at ho,fun b hb=>.inl (h3.smono b hb),fun b hb=>by
   rcases hb with hb | hb
   ·exact h3.snew b hb
   ·exact (h3.onew b hb).imp id id |>.elim (fun h=>.inr (.inl h)) (fun h=>absurd h BC),
  fun b hb=>absurd hb BC,fun b hb hn=>h3.same b hb hn,h3.size,h3.os,h3.tape,h3.output⟩
def CD (P:Program) (fn:Func) (str hcs:List Nat) (base:Nat) (r:AV) (H':List AO):Env:=⟨P,fn,str,hcs,base,none,[],none,fun v H=>v=r∧H=H'⟩
@[simp] theorem resX_H (P:Program) (fn:Func) (str hcs:List Nat) (b:Nat) (r:AV) (H:List AO) (s:AS):PJ (CD P fn str hcs b r H) s=Ku P fn s:=rfl
theorem HCall.intro {P:Program} {f:FuncId} {fn:Func} {body:Code} (he:ZZ P f) (hf:P.funcs[f]?=some fn) (hb:fn.body=some body) (hm:P.follows .mixedOrders=true) {args:List AV} {H H':List AO} {r:AV}
  (n0:Nat) (hid str hcs:List Nat) (hok:Qj fn.ntmps str hcs body=true) (hlen:args.length≤fn.ntmps) (h:Run (CD P fn str hcs H.length r H') [.code body] (AS.start n0 hid args H)):HCall P f args H r H':=by
 refine ⟨he,?_⟩
 rintro c vs rfl hr hv
 refine Zc (X:=CD P fn str hcs c.H.length r H') hf hb hm hok rfl hr hv hlen h (fun p hp=>absurd hp (List.not_mem_nil)) ?_
 rintro v r' ⟨w',S',γ',H''⟩ h1 h2 h3 ⟨rfl,rfl⟩
 exact ⟨v,S',γ',rfl,h1,h2,h3.toExt (Nat.le_refl _)⟩
def Xh:List AV→List AV→Prop
 | _,[]=>True
 | a :: l,b :: l'=>(b=.any∨a=b)∧Xh l l'
 | [],b :: l'=>b=.any∧Xh [] l'
def Xi (tm:List (Nat×AV)):List (Nat×AV)→Prop
 | []=>True
 | (i,v) :: l=>(v=.any∨Xp tm i=v)∧Xi tm l
theorem Fr:∀ {l l':List AV},Xh l l'→∀ i,l'.getD i .any=.any∨l.getD i .any=l'.getD i .any
 | l,[],_,i=>.inl (by simp)
 | a :: l,b :: l',h,0=>by simpa using h.1
 | a :: l,b :: l',h,i+1=>by simpa using Fr h.2 i
 | [],b :: l',h,0=>.inl (by simpa using h.1)
 | [],b :: l',h,i+1=>by simpa using Fr h.2 i
theorem IM {tm:List (Nat×AV)}:∀ {l:List (Nat×AV)},Xi tm l→∀ i,Xp l i=.any∨Xp tm i=Xp l i
 | [],_,i=>.inl rfl
 | (j,v) :: l,h,i=>by
  simp only [Xp]
  by_cases hi:i=j
  ·subst hi; simpa using h.1
  ·simp only [hi,if_false]; exact IM h.2 i
theorem Xb {m:Nat} {s s':AS} (h1:s'.n0=s.n0) (h3:Xh s.sl s'.sl) (h4:Xi s.tm s'.tm) (h5:s.h=s'.h):Sub m s s':=by
 intro N c a hst
 refine ⟨c,rfl,(Ext.refl c).toB m,hst.size,hst.defers,fun i=>?_,by rw [← h5]; exact hst.heap,hst.hrel⟩
 have:=hst.slots i
 unfold AS.get at this ⊢
 rw [h1]
 split
 ·rename_i hi
  simp only [hi,if_true] at this
  rcases Fr h3 i with e | e
  ·rw [e]; exact .any _
  ·rw [← e]; exact this
 ·rename_i hi
  simp only [hi,if_false] at this
  rcases IM h4 i with e | e
  ·rw [e]; exact .any _
  ·rw [← e]; exact this
def Kd (m:Nat) (a:AV):Prop:=∀ (c:Ctx) v,Rep c v a→Rep ⟨c.w,c.S,c.γ,c.H.take m⟩ v a
theorem X9 {m:Nat} {a:AV} (h:Settled a):Kd m a:=fun c v hv=>GB (h c v hv) _ _
theorem EX {H:List AO} {m id:Nat} (h:id<m):inf (H.take m) id=inf H id:=by simp [inf,List.getElem?_take,h]
theorem Ep {H:List AO} {m id ver:Nat} (h:id<m) (hs:stale H id ver):stale (H.take m) id ver:=by
 rcases hs with ⟨v,hi,hlt⟩ | hd
 ·exact .inl ⟨v,by rw [EX h]; exact hi,hlt⟩
 ·exact .inr (by simp [h,hd])
theorem H3 {m id ver es off n:Nat} (h:id<m):Kd m (.osl id ver es off n):=fun c v hv=>by
 cases hv with
 | osl _ _ _ _ _ cap b sz hi hg hn hcap hmx=>exact .osl _ _ _ _ _ _ b sz (by rw [← EX h] at hi; exact hi) hg hn hcap hmx
 | oslz _ _ _ _ a hi=>exact .oslz _ _ _ _ _ (by rw [← EX h] at hi; exact hi)
 | oslOld _ _ _ _ _ a cap hn hs=>exact .oslOld _ _ _ _ _ _ _ hn (Ep h hs)
 | oslzOld _ _ _ _ a hs=>exact .oslzOld _ _ _ _ _ (Ep h hs)
theorem iD {m id ver off:Nat} (h:id<m):Kd m (.ref id ver off):=fun c v hv=>by
 cases hv with
 | ref _ _ _ b sz hi hg=>exact .ref _ _ _ b sz (by rw [← EX h] at hi; exact hi) hg
 | refOld _ _ _ a hs=>exact .refOld _ _ _ _ (Ep h hs)
theorem iC {m:Nat} {l:List AV} (hl:∀ a∈l,Kd m a):Kd m (.agg l):=fun c v hv=>by
 cases hv with
 | agg vs _ hs hr=>exact .agg vs l hs fun j hj=>hl _ (by rw [List.getD_eq_getElem?_getD,List.getElem?_eq_getElem hj]; exact List.getElem_mem _) c _ (hr j hj)
def XS (m:Nat):AO→Prop
 | .row _ n f=>∀ j,j<n→Kd m (f j)
 | .con _ n f=>∀ j,j<n→Kd m (f j)
 | .map _ g=>∀ n a,g n=some a→Kd m a
 | _=>True
theorem XA {b m:Nat} {s s':AS} (hbm:b≤m) (h1:s'.n0=s.n0) (h3:Xh s.sl s'.sl) (h4:Xi s.tm s'.tm) (h5:s.h.take m=s'.h)
  (h6:∀ a∈s'.sl,Kd m a) (h7:∀ p∈s'.tm,Kd m p.2) (h8:∀ o∈s'.h,XS m o):Sub b s s':=by
 intro N c a hst
 have hH:c.H=s.h:=hst.heap
 have hget:∀ (i:Nat) (o:AO),(c.H.take m)[i]?=some o→c.H[i]?=some o∧i<m:=by
  intro i o ho
  rw [List.getElem?_take] at ho
  split at ho
  ·exact ⟨ho,by assumption⟩
  ·cases ho
 have hmem:∀ (i:Nat) (o:AO),(c.H.take m)[i]?=some o→XS m o:=fun i o ho=>h8 o (by rw [← h5,← hH]; exact List.mem_of_getElem? ho)
 refine ⟨⟨c.w,c.S,c.γ,c.H.take m⟩,rfl,?_,hst.size,hst.defers,fun i=>?_,by rw [← h5,hH],?_⟩
 ·refine ⟨?_,fun _ h=>h,fun _ h=>.inl h,?_,fun _ _ _=>rfl,Nat.le_refl _,rfl,rfl,rfl⟩
  ·intro id o hlt ho
   have h0:(c.H.take m)[id]?=some o:=by rw [List.getElem?_take,if_pos (by omega)]; exact ho
   cases o with
   | unborn=>trivial
   | dead=>exact h0
   | row v _ _=>exact .inr ⟨v,by simp [inf,h0,AO.info],.inr ⟨rfl,rfl⟩⟩
   | con v _ _=>exact .inr ⟨v,by simp [inf,h0,AO.info],.inr ⟨rfl,rfl⟩⟩
   | map k g=>exact .inr ⟨⟨k,g,h0⟩,rfl⟩
  ·rintro x ⟨id,o,sz,ho,hown,hg⟩
   exact .inr ⟨id,o,sz,(hget id o ho).1,hown,hg⟩
 ·have:=hst.slots i
  unfold AS.get at this ⊢
  rw [h1]
  split
  ·rename_i hi
   simp only [hi,if_true] at this
   have hb:Kd m (s'.sl.getD i .any):=by
    rw [List.getD_eq_getElem?_getD]
    cases hx:s'.sl[i]? with
    | none=>exact fun _ v _=>.any v
    | some x=>exact h6 _ (List.mem_of_getElem? hx)
   rcases Fr h3 i with e | e
   ·rw [e]; exact .any _
   ·rw [e] at this; exact hb c _ this
  ·rename_i hi
   simp only [hi,if_false] at this
   have hb:Kd m (Xp s'.tm i):=by
    have:∀ l:List (Nat×AV),(∀ p∈l,Kd m p.2)→Kd m (Xp l i):=by
     intro l
     induction l with
     | nil=>exact fun _ _ v _=>.any v
     | cons x l ih =>
      intro hl
      obtain ⟨j,v⟩:=x
      simp only [Xp]
      split
      ·exact hl (j,v) (by simp)
      ·exact ih fun p hp=>hl p (by simp [hp])
    exact this _ h7
   rcases IM h4 i with e | e
   ·rw [e]; exact .any _
   ·rw [e] at this; exact hb c _ this
 ·refine ⟨?_,?_,?_,?_,hst.hrel.bound⟩
  ·intro id v n f ho
   have hb:=hmem _ _ ho
   rcases hst.hrel.row id v n f (hget _ _ ho).1 with h | ⟨b,sz,cs,el,g1,g2,g3,g4,g5,g6⟩
   ·exact .inl h
   ·exact .inr ⟨b,sz,cs,el,g1,g2,g3,g4,g5,fun j hj=>hb j hj c _ (g6 j hj)⟩
  ·intro id v n f ho
   have hb:=hmem _ _ ho
   rcases hst.hrel.con id v n f (hget _ _ ho).1 with h | ⟨b,sz,cs,el,fr,g1,g2,g3,g4,g5,g6⟩
   ·exact .inl h
   ·exact .inr ⟨b,sz,cs,el,fr,g1,g2,g3,g4,g5,fun j hj=>hb j hj c _ (g6 j hj)⟩
  ·intro id k g ho
   have hb:=hmem _ _ ho
   obtain ⟨b,sz,es,cl,g1,g2,g3,g4⟩:=hst.hrel.map id k g (hget _ _ ho).1
   exact ⟨b,sz,es,cl,g1,g2,g3,g4.keys,g4.uniq,fun n a hn=>let ⟨e,he,hk,hr⟩:=g4.hit n a hn; ⟨e,he,hk,hb n a hn c _ hr⟩,g4.miss⟩
  ·intro i i' o o' b sz sz' ho ho' g1 g2 hg hg'
   exact hst.hrel.inj _ _ _ _ _ _ _ (hget _ _ ho).1 (hget _ _ ho').1 g1 g2 hg hg'
theorem Xf {X:Env} {ι:Type} {body:Code} {k:List Item} {s:AS} (st:ι→AS) (inv:ι→Prop) (μ:ι→Nat) (i0:ι) (h0:inv i0) (hs:Sub X.base s (st i0))
  (round:∀ i,inv i→(∀ j s',inv j→μ j<μ i→Sub X.base s' (st j)→Run X (.inLoop body :: k) s')→Run X (.code body :: .inLoop body :: k) (st i)):Run X (.code (.loop body) :: k) s:=by
 have key:∀ n i,μ i=n→inv i→Run X (.code body :: .inLoop body :: k) (st i):=by
  intro n
  induction n using Nat.strongRecOn with
  | _ n ih =>
   intro i hn hi
   refine round i hi fun j s' hj hlt hsub=>?_
   exact Eo ((ih (μ j) (by omega) j rfl hj).sub hsub)
 exact G8 ((key _ i0 rfl h0).sub hs)
end
end Go.Ab
namespace Go.Ab
open Go Go.RowKit
noncomputable section
section
variable (X:Env) (n:Nat) (k:List Item) (s:AS)
theorem pk (a b:Code):vc X (n+1) (.code (.seq a b) :: k) s=vc X n (.code a :: .code b :: k) s:=nrfl rfl
theorem lH:vc X (n+1) (.code .skip :: k) s=vc X n k s:=nrfl rfl
theorem gk (l:Nat):vc X (n+1) (.code (.label l) :: k) s=vc X n k s:=nrfl rfl
theorem gh (i:Nat) (b:Code):vc X (n+1) (.code (.block i b) :: k) s=vc X n (.code b :: .inBlock i :: k) s:=nrfl rfl
theorem gl (b:Code):vc X (n+1) (.code (.scope b) :: k) s=vc X n (.code b :: .inScope b :: k) s:=nrfl rfl
theorem Tr (i:Nat):vc X (n+1) (.inBlock i :: k) s=vc X n k s:=nrfl rfl
theorem Ts (c:Code):vc X (n+1) (.inScope c :: k) s=vc X n k s:=nrfl rfl
theorem lG (i:Nat):vc X (n+1) (.code (.exit i) :: k) s=match exitTo i k with | some k'=>vc X n k' s | none=>False:=rfl
theorem lF (o:Operand) (a b:Code):vc X (n+1) (.code (.cond o a b) :: k) s=match s.ev o with
 | .bool t=>(t=true→vc X n (.code a :: k) s)∧(t=false→vc X n (.code b :: k) s)
 | .abool=>vc X n (.code a :: k) s∧vc X n (.code b :: k) s
 | _=>False:=rfl
variable (all:Array Oper) (st:Nat→Bool) (hc:Bool) (bs:Option Nat) (i nx:Nat) (os:List Oper)
theorem Yq (M:Md):Xq X (n+1) M [] k s=vc X n k s:=nrfl rfl
theorem GL (M:Md) (d:Option Nat) (op:Op) (t:TypeId) (p:String) (af:Array Edge) (j:Nat) (want:Bool):Xq X (n+1) M (⟨d,op,t,p,af,some (j,want)⟩ :: os) k s =
  match (M.all[j]?).bind (·.dst) with
  | some e=>match s.get e with
    | .bool b=>(b=true→if want=true then XZ X n M ⟨d,op,t,p,af,some (j,want)⟩ os k (s.fix e (.bool true)) else Xq X n (M.next ⟨d,op,t,p,af,some (j,want)⟩) os k ((s.fix e (.bool true)).putO d XU)) ∧
                 (b=false→if want=false then XZ X n M ⟨d,op,t,p,af,some (j,want)⟩ os k (s.fix e (.bool false)) else Xq X n (M.next ⟨d,op,t,p,af,some (j,want)⟩) os k ((s.fix e (.bool false)).putO d XU))
    | .tup []=>Xq X n (M.next ⟨d,op,t,p,af,some (j,want)⟩) os k (s.putO d XU)
    | _=>False
  | none=>False:=rfl
theorem WD (b:Nat) (o:Oper):Md.next ⟨all,st,hc,some b,i,nx⟩ o=⟨all,st,hc,some b,i+1,if Ql hc o.op=2 then nx+1 else nx⟩:=rfl
theorem Jk (M:Md) (o:Oper) (h1:Zb o.op=none) (h2:Ql M.hcall o.op≠2) :
 XZ X (n+1) M o os k s=XK (QU X.P (M.strict M.i) none o.op s.ev s.h) fun r=>Xq X n (M.next o) os k (({ s with h:=r.2 }:AS).putO o.dst r.1):=by
 unfold XZ
 simp only [h1]
 cases M.base with
 | none=>rfl
 | some b=>simp only [h2,if_false]
theorem Bj (o:Oper) (h1:Zb o.op=none) :
 XZ X (n+1) ⟨all,st,hc,none,i,nx⟩ o os k s=XK (QU X.P (st i) none o.op s.ev s.h) fun r=>Xq X n ⟨all,st,hc,none,i+1,nx⟩ os k (({ s with h:=r.2 }:AS).putO o.dst r.1):=by
 unfold XZ
 simp only [h1]
 rfl
theorem DU (b:Nat) (o:Oper) (h1:Zb o.op=none) (h2:Ql hc o.op=2) :
 XZ X (n+1) ⟨all,st,hc,some b,i,nx⟩ o os k s=(s.h[nx]?=some .unborn∧XK (QU X.P (st i) (some nx) o.op s.ev s.h) fun r=>Xq X n ⟨all,st,hc,some b,i+1,nx+1⟩ os k (({ s with h:=r.2 }:AS).putO o.dst r.1)):=by
 unfold XZ
 simp only [h1,h2,if_true,Md.next]
end
theorem BA {α β:Type} (f:α→β) (o:Option α) (K:β→Prop):XK (o.map f) K=XK o (fun x=>K (f x)):=by
 unfold XK
 cases o <;> simp
section
variable (X:Env) (n:Nat) (k:List Item) (s:AS) (all:Array Oper) (st:Nat→Bool) (hc:Bool) (bs:Option Nat) (i nx:Nat) (os:List Oper) (d:Option Nat) (t:TypeId) (p:String) (af:Array Edge) (g:Option (Nat×Bool))
theorem Ji (M:Md) (o:Oper) (h2:Ql M.hcall o.op≠2):M.next o={ M with i:=M.i+1 }:=by
 unfold Md.next
 cases M.base with
 | none=>rfl
 | some b=>simp [h2]
theorem GK (o:Op) (v:AV) (h1:Zb o=none) (h2:Ql hc o≠2) (h3:QU X.P (st i) none o s.ev s.h=some (v,s.h)) :
 XZ X (n+1) ⟨all,st,hc,bs,i,nx⟩ ⟨d,o,t,p,af,g⟩ os k s=Xq X n ⟨all,st,hc,bs,i+1,nx⟩ os k (s.putO d v):=by
 rw [Jk (h1:=h1) (h2:=h2),h3,obind_some,Ji (h2:=h2)]
theorem Kc (o:Op) (q:Option AV) (h1:Zb o=none) (h2:Ql hc o≠2) (h3:QU X.P (st i) none o s.ev s.h=q.map fun v=>(v,s.h)) :
 XZ X (n+1) ⟨all,st,hc,bs,i,nx⟩ ⟨d,o,t,p,af,g⟩ os k s=XK q fun v=>Xq X n ⟨all,st,hc,bs,i+1,nx⟩ os k (s.putO d v):=by
 rw [Jk (h1:=h1) (h2:=h2),h3,BA,Ji (h2:=h2)]
theorem Yn (o:Op) (q:Option (List AO)) (h1:Zb o=none) (h2:Ql hc o≠2) (h3:QU X.P (st i) none o s.ev s.h=q.map fun h'=>(XU,h')) :
 XZ X (n+1) ⟨all,st,hc,bs,i,nx⟩ ⟨d,o,t,p,af,g⟩ os k s=XK q fun h'=>Xq X n ⟨all,st,hc,bs,i+1,nx⟩ os k (({ s with h:=h' }:AS).putO d XU):=by
 rw [Jk (h1:=h1) (h2:=h2),h3,BA,Ji (h2:=h2)]
theorem Um (x:Operand):XZ X (n+1) ⟨all,st,hc,bs,i,nx⟩ ⟨d,.move x,t,p,af,g⟩ os k s=Xq X n ⟨all,st,hc,bs,i+1,nx⟩ os k (s.putO d (s.ev x)):=GK _ _ _ _ _ _ _ _ _ _ _ _ _ _ _ _ _ _ rfl (by simp [Ql]) rfl
theorem Mi (x:Operand):XZ X (n+1) ⟨all,st,hc,bs,i,nx⟩ ⟨d,.assign x,t,p,af,g⟩ os k s=Xq X n ⟨all,st,hc,bs,i+1,nx⟩ os k (s.putO d (s.ev x)):=GK _ _ _ _ _ _ _ _ _ _ _ _ _ _ _ _ _ _ rfl (by simp [Ql]) rfl
theorem Uk (u:TypeId) (x:Operand):XZ X (n+1) ⟨all,st,hc,bs,i,nx⟩ ⟨d,.load u x,t,p,af,g⟩ os k s=XK (Jz X.P (st i) u (s.ev x) s.h) fun v=>Xq X n ⟨all,st,hc,bs,i+1,nx⟩ os k (s.putO d v):=Kc _ _ _ _ _ _ _ _ _ _ _ _ _ _ _ _ _ _ rfl (by simp [Ql]) rfl
theorem eD (o:BinOp) (u u':TypeId) (x y:Operand):XZ X (n+1) ⟨all,st,hc,bs,i,nx⟩ ⟨d,.binOp o u x y u',t,p,af,g⟩ os k s=XK (LA X.P o u y (s.ev x) (s.ev y)) fun v=>Xq X n ⟨all,st,hc,bs,i+1,nx⟩ os k (s.putO d v):=Kc _ _ _ _ _ _ _ _ _ _ _ _ _ _ _ _ _ _ rfl (by simp [Ql]) rfl
theorem mq (o:UnOp) (u:TypeId) (x:Operand):XZ X (n+1) ⟨all,st,hc,bs,i,nx⟩ ⟨d,.unOp o u x,t,p,af,g⟩ os k s=XK (ns o (s.ev x)) fun v=>Xq X n ⟨all,st,hc,bs,i+1,nx⟩ os k (s.putO d v):=Kc _ _ _ _ _ _ _ _ _ _ _ _ _ _ _ _ _ _ rfl (by simp [Ql]) rfl
theorem Ui (u u':TypeId) (x:Operand):XZ X (n+1) ⟨all,st,hc,bs,i,nx⟩ ⟨d,.convert u u' x,t,p,af,g⟩ os k s=XK (LB X.P u u' (s.ev x)) fun v=>Xq X n ⟨all,st,hc,bs,i+1,nx⟩ os k (s.putO d v):=Kc _ _ _ _ _ _ _ _ _ _ _ _ _ _ _ _ _ _ rfl (by simp [Ql]) rfl
theorem F7 (u:TypeId) (x y:Operand):XZ X (n+1) ⟨all,st,hc,bs,i,nx⟩ ⟨d,.indexAddr u x y,t,p,af,g⟩ os k s=XK (DW X.P u (s.ev x) (s.ev y)) fun v=>Xq X n ⟨all,st,hc,bs,i+1,nx⟩ os k (s.putO d v):=Kc _ _ _ _ _ _ _ _ _ _ _ _ _ _ _ _ _ _ rfl (by simp [Ql]) rfl
theorem Un (u:TypeId) (x:Operand):XZ X (n+1) ⟨all,st,hc,bs,i,nx⟩ ⟨d,.sliceToArrayPointer u x,t,p,af,g⟩ os k s=XK (LI X.P u (s.ev x)) fun v=>Xq X n ⟨all,st,hc,bs,i+1,nx⟩ os k (s.putO d v):=Kc _ _ _ _ _ _ _ _ _ _ _ _ _ _ _ _ _ _ rfl (by simp [Ql]) rfl
theorem F6 (u:TypeId) (x:Operand) (j:Nat):XZ X (n+1) ⟨all,st,hc,bs,i,nx⟩ ⟨d,.fieldAddr u x j,t,p,af,g⟩ os k s=XK (Dg X.P u (s.ev x) j) fun v=>Xq X n ⟨all,st,hc,bs,i+1,nx⟩ os k (s.putO d v):=Kc _ _ _ _ _ _ _ _ _ _ _ _ _ _ _ _ _ _ rfl (by simp [Ql]) rfl
theorem Po (u:TypeId) (ps:Array (Nat×Operand)):XZ X (n+1) ⟨all,st,hc,bs,i,nx⟩ ⟨d,.build u ps,t,p,af,g⟩ os k s=XK (FD X.P u (ps.toList.map fun q=>(q.1,s.ev q.2))) fun v=>Xq X n ⟨all,st,hc,bs,i+1,nx⟩ os k (s.putO d v):=Kc _ _ _ _ _ _ _ _ _ _ _ _ _ _ _ _ _ _ rfl (by simp [Ql]) rfl
theorem DO (u:TypeId) (m:Nat) (ps:Array (Nat×Operand)):XZ X (n+1) ⟨all,st,hc,bs,i,nx⟩ ⟨d,.buildSlice u m ps,t,p,af,g⟩ os k s=XK (ZJ X.P u m (ps.toList.map fun q=>(q.1,s.ev q.2))) fun v=>Xq X n ⟨all,st,hc,bs,i+1,nx⟩ os k (s.putO d v):=Kc _ _ _ _ _ _ _ _ _ _ _ _ _ _ _ _ _ _ rfl (by simp [Ql]) rfl
theorem Pt (u:TypeId) (x y:Operand):XZ X (n+1) ⟨all,st,hc,bs,i,nx⟩ ⟨d,.store u x y,t,p,af,g⟩ os k s=XK (Ai X.P (st i) u (s.ev x) (s.ev y) s.h) fun h'=>Xq X n ⟨all,st,hc,bs,i+1,nx⟩ os k (({ s with h:=h' }:AS).putO d XU):=Yn _ _ _ _ _ _ _ _ _ _ _ _ _ _ _ _ _ _ rfl (by simp [Ql]) rfl
theorem Gw (x:Operand):XZ X (n+1) ⟨all,st,hc,bs,i,nx⟩ ⟨d,.nilCheck x,t,p,af,g⟩ os k s=((s.ev x).isPtr=true∧Xq X n ⟨all,st,hc,bs,i+1,nx⟩ os k (s.putO d (s.ev x))):=by
 rw [Jk (h1:=rfl) (h2:=by simp [Ql]),Ji (h2:=by simp [Ql])]
 show XK (Q2 _ (some (s.ev x,s.h))) _=_
 rw [obind_oif,obind_some]
theorem Ps (u:TypeId) (x:Operand) (lo hi:Option Operand):XZ X (n+1) ⟨all,st,hc,bs,i,nx⟩ ⟨d,.slice u x lo hi none,t,p,af,g⟩ os k s =
  XK (Cw X.P u (s.ev x) (lo.map s.ev) (hi.map s.ev) none) fun v=>Xq X n ⟨all,st,hc,bs,i+1,nx⟩ os k (s.putO d v):=by
 rw [Jk (h1:=rfl) (h2:=by simp [Ql]),Ji (h2:=by simp [Ql])]
 show XK (Q2 _ (Option.map _ _)) _=_
 rw [obind_oif,BA]
 simp
theorem Mj (u:TypeId) (x:Operand) (lo:Option Operand) (hi mx:Operand):XZ X (n+1) ⟨all,st,hc,bs,i,nx⟩ ⟨d,.slice u x lo (some hi) (some mx),t,p,af,g⟩ os k s =
  XK (Cw X.P u (s.ev x) (lo.map s.ev) (some (s.ev hi)) (some (s.ev mx))) fun v=>Xq X n ⟨all,st,hc,bs,i+1,nx⟩ os k (s.putO d v):=by
 rw [Jk (h1:=rfl) (h2:=by simp [Ql]),Ji (h2:=by simp [Ql])]
 show XK (Q2 _ (Option.map _ _)) _=_
 rw [obind_oif,BA]
 simp
theorem kF (x y z:Operand):XZ X (n+1) ⟨all,st,hc,bs,i,nx⟩ ⟨d,.pick x y z,t,p,af,g⟩ os k s=(match s.ev x with
  | .bool true=>Xq X n ⟨all,st,hc,bs,i+1,nx⟩ os k (s.putO d (s.ev y))
  | .bool false=>Xq X n ⟨all,st,hc,bs,i+1,nx⟩ os k (s.putO d (s.ev z))
  | _=>False):=by
 rw [Jk (h1:=rfl) (h2:=by simp [Ql]),Ji (h2:=by simp [Ql])]
 simp only [QU]
 cases hx:s.ev x with
 | bool b=>cases b <;> simp
 | _=>simp
theorem T1 (x:Operand) (j:Nat):XZ X (n+1) ⟨all,st,hc,bs,i,nx⟩ ⟨d,.extract x j,t,p,af,g⟩ os k s=(match s.ev x with
  | .tup l=>j<l.length∧Xq X n ⟨all,st,hc,bs,i+1,nx⟩ os k (s.putO d (l.getD j .any))
  | _=>False):=by
 rw [Jk (h1:=rfl) (h2:=by simp [Ql]),Ji (h2:=by simp [Ql])]
 simp only [QU]
 cases hx:s.ev x <;> simp
theorem Gv (f:FuncId) (caps:Array Operand):XZ X (n+1) ⟨all,st,hc,bs,i,nx⟩ ⟨d,.makeFunc (.func f) #[] caps,t,p,af,g⟩ os k s=Xq X n ⟨all,st,hc,bs,i+1,nx⟩ os k (s.putO d (.fn f (caps.toList.map s.ev))):=by
 rw [Jk (h1:=rfl) (h2:=by simp [Ql]),Ji (h2:=by simp [Ql])]
 show XK (Q2 _ _) _=_
 rw [obind_oif,obind_some]
 simp
theorem eF (x:Operand) (u:TypeId):XZ X (n+1) ⟨all,st,hc,bs,i,nx⟩ ⟨d,.call { callee:=.builtin .len,args:=#[x],argTypes:=#[u] },t,p,af,g⟩ os k s =
  XK (S0 X.P u (s.ev x)) fun v=>Xq X n ⟨all,st,hc,bs,i+1,nx⟩ os k (s.putO d v):=Kc _ _ _ _ _ _ _ _ _ _ _ _ _ _ _ _ _ _ rfl (by simp [Ql]) rfl
theorem eH (x y:Operand) (us:Array TypeId):XZ X (n+1) ⟨all,st,hc,bs,i,nx⟩ ⟨d,.call { callee:=.builtin .min,args:=#[x,y],argTypes:=us },t,p,af,g⟩ os k s =
  XK (Vs (s.ev x) (s.ev y)) fun v=>Xq X n ⟨all,st,hc,bs,i+1,nx⟩ os k (s.putO d v):=Kc _ _ _ _ _ _ _ _ _ _ _ _ _ _ _ _ _ _ rfl (by simp [Ql]) rfl
theorem eG (x y:Operand) (us:Array TypeId):XZ X (n+1) ⟨all,st,hc,bs,i,nx⟩ ⟨d,.call { callee:=.builtin .max,args:=#[x,y],argTypes:=us },t,p,af,g⟩ os k s =
  XK (Vr (s.ev x) (s.ev y)) fun v=>Xq X n ⟨all,st,hc,bs,i+1,nx⟩ os k (s.putO d v):=Kc _ _ _ _ _ _ _ _ _ _ _ _ _ _ _ _ _ _ rfl (by simp [Ql]) rfl
theorem Mh (x y:Operand) (u:TypeId):XZ X (n+1) ⟨all,st,hc,bs,i,nx⟩ ⟨d,.call { callee:=.builtin .append,args:=#[x,y],argTypes:=#[u,u] },t,p,af,g⟩ os k s =
  XK (K2 X.P u (s.ev x) (s.ev y) s.h) fun r=>Xq X n ⟨all,st,hc,bs,i+1,nx⟩ os k (({ s with h:=r.2 }:AS).putO d r.1):=by
 rw [Jk (h1:=rfl) (h2:=by simp [Ql]),Ji (h2:=by simp [Ql])]
 show XK (if u=u then _ else _) _=_
 rw [if_pos rfl]
theorem Uj (x y:Operand) (u u':TypeId):XZ X (n+1) ⟨all,st,hc,bs,i,nx⟩ ⟨d,.call { callee:=.builtin .copy,args:=#[x,y],argTypes:=#[u,u'] },t,p,af,g⟩ os k s =
  XK (DF X.P u (s.ev x) (s.ev y) s.h) fun r=>Xq X n ⟨all,st,hc,bs,i+1,nx⟩ os k (({ s with h:=r.2 }:AS).putO d r.1):=by
 rw [Jk (h1:=rfl) (h2:=by simp [Ql]),Ji (h2:=by simp [Ql])]
 rfl
theorem Pp (x:Operand) (u:TypeId):XZ X (n+1) ⟨all,st,hc,bs,i,nx⟩ ⟨d,.call { callee:=.builtin .clear,args:=#[x],argTypes:=#[u] },t,p,af,g⟩ os k s =
  XK (Ba X.P u (s.ev x) s.h) fun r=>Xq X n ⟨all,st,hc,bs,i+1,nx⟩ os k (({ s with h:=r.2 }:AS).putO d r.1):=by
 rw [Jk (h1:=rfl) (h2:=by simp [Ql]),Ji (h2:=by simp [Ql])]
 rfl
theorem Pn (u:TypeId):XZ X (n+1) ⟨all,st,hc,none,i,nx⟩ ⟨d,.alloc u,t,p,af,g⟩ os k s =
  XK (Zr X.P none u s.h) fun r=>Xq X n ⟨all,st,hc,none,i+1,nx⟩ os k (({ s with h:=r.2 }:AS).putO d r.1):=Bj _ _ _ _ _ _ _ _ _ _ _ rfl
theorem eE (u:TypeId) (x:Operand):XZ X (n+1) ⟨all,st,hc,none,i,nx⟩ ⟨d,.box u x,t,p,af,g⟩ os k s =
  XK (L9 none (s.ev x) s.h) fun r=>Xq X n ⟨all,st,hc,none,i+1,nx⟩ os k (({ s with h:=r.2 }:AS).putO d r.1):=Bj _ _ _ _ _ _ _ _ _ _ _ rfl
theorem Ul (u:TypeId) (x y:Operand):XZ X (n+1) ⟨all,st,hc,none,i,nx⟩ ⟨d,.makeSlice u x y,t,p,af,g⟩ os k s =
  XK (AM X.P none u (s.ev x) (s.ev y) s.h) fun r=>Xq X n ⟨all,st,hc,none,i+1,nx⟩ os k (({ s with h:=r.2 }:AS).putO d r.1):=Bj _ _ _ _ _ _ _ _ _ _ _ rfl
variable (b:Nat)
theorem Mg (u:TypeId):XZ X (n+1) ⟨all,st,hc,some b,i,nx⟩ ⟨d,.alloc u,t,p,af,g⟩ os k s =
  (s.h[nx]?=some .unborn∧XK (Zr X.P (some nx) u s.h) fun r=>Xq X n ⟨all,st,hc,some b,i+1,nx+1⟩ os k (({ s with h:=r.2 }:AS).putO d r.1)):=DU _ _ _ _ _ _ _ _ _ _ _ _ rfl rfl
theorem Pr (u:TypeId) (x y:Operand):XZ X (n+1) ⟨all,st,hc,some b,i,nx⟩ ⟨d,.makeSlice u x y,t,p,af,g⟩ os k s =
  (s.h[nx]?=some .unborn∧XK (AM X.P (some nx) u (s.ev x) (s.ev y) s.h) fun r=>Xq X n ⟨all,st,hc,some b,i+1,nx+1⟩ os k (({ s with h:=r.2 }:AS).putO d r.1)):=DU _ _ _ _ _ _ _ _ _ _ _ _ rfl rfl
variable (n0:Nat) (hid:List Nat) (sl:List AV) (tm:List (Nat×AV)) (h:List AO)
theorem nY (t:Nat):AS.ev ⟨n0,hid,sl,tm,h⟩ (.tmp t)=if t<n0 then sl.getD t .any else Xp tm t:=nrfl rfl
theorem cO (s:AS) (v:Value):s.ev (.const v)=Yu v:=nrfl rfl
theorem jz (s:AS) (f:FuncId):s.ev (.func f)=.fn f []:=nrfl rfl
theorem kr (t:Nat):AS.get ⟨n0,hid,sl,tm,h⟩ t=if t<n0 then sl.getD t .any else Xp tm t:=nrfl rfl
theorem WO (i:Nat) (v:AV):AS.putO ⟨n0,hid,sl,tm,h⟩ (some i) v=if i<n0 then ⟨n0,hid,sl.set i v,tm,h⟩ else ⟨n0,hid,sl,(i,v) :: tm,h⟩:=nrfl rfl
theorem WN (s:AS) (v:AV):s.putO none v=s:=nrfl rfl
theorem jD (i:Nat) (v:AV):AS.fix ⟨n0,hid,sl,tm,h⟩ i v=if i<n0 then ⟨n0,hid,sl.set i v,tm,h⟩ else ⟨n0,hid,sl,Iw tm i v,h⟩:=nrfl rfl
theorem ji:AS.clr ⟨n0,[],sl,tm,h⟩=⟨n0,[],sl,[],h⟩:=by simp [AS.clr]
def Gl (hid:List Nat):List (Nat×AV)→List (Nat×AV)
 | []=>[]
 | (i,v) :: l=>if hid.contains i=true then (i,v) :: Gl hid l else Gl hid l
theorem jg (j:Nat) (hid':List Nat):AS.clr ⟨n0,j :: hid',sl,tm,h⟩=⟨n0,j :: hid',sl,Gl (j :: hid') tm,h⟩:=by
 unfold AS.clr
 congr 1
 show tm.filter (fun p=>(j :: hid').contains p.1)=_
 induction tm with
 | nil=>rfl
 | cons x l ih =>
  obtain ⟨i,v⟩:=x
  simp only [List.filter_cons,Gl,ih]
def E7 (hcall:Bool):List Oper→Nat
 | []=>0
 | o :: os=>(if Ql hcall o.op=2 then 1 else 0)+E7 hcall os
theorem W1 (hcall:Bool) (ops:Array Oper):E8 hcall ops=E7 hcall ops.toList:=by
 unfold E8
 induction ops.toList with
 | nil=>rfl
 | cons o os ih =>
  simp only [List.filter_cons,E7]
  by_cases hc:Ql hcall o.op=2
  ·simp [hc,ih]; omega
  ·simp [hc,ih]
theorem W3 (hcall:Bool) (ops:Array Oper):HU hcall ops ⟨n0,hid,sl,tm,h⟩ =
  ⟨n0,hid,sl,(AS.clr ⟨n0,hid,sl,tm,h⟩).tm,h ++ List.replicate (E7 hcall ops.toList) .unborn⟩:=by
 unfold HU; rw [W1]; rfl
end
theorem jn (k:IntKind) (n:Int):Yu (.int k n)=.int k n:=nrfl rfl
theorem bK (b:Bool):Yu (.bool b)=.bool b:=nrfl rfl
theorem jo:Yu (.pointer none)=.nil:=nrfl rfl
theorem nH:Yu (.slice none 0 0)=.sl 0 0 (fun _=>.any) true:=nrfl rfl
theorem nG:Yu .nilFunc=.nilfn:=nrfl rfl
def Q3 {α:Type} (e:α→AV) (d:α) (l:List α):Nat→AV:=fun j=>e (l.getD j d)
def Qb {α:Type} (e:α→AV) (d:α) (l:List α):AV:=.sl l.length l.length (Q3 e d l) false
def I (n:Int):AV:=.int .i64 n
def X6 (l:List Int):AV:=Qb I 0 l
def KN (l:List Bool):AV:=Qb AV.bool false l
def Bw (l:List (List Int)):AV:=Qb X6 [] l
def Xr {α:Type} (e:α→List AV) (s:Nat) (d:α) (l:List α):Nat→AV:=fun j=>(e (l.getD (j / s) d)).getD (j % s) .any
def pz {α:Type} (e:α→List AV) (s:Nat) (d:α) (l:List α):AV:=.sl l.length (l.length*s) (Xr e s d l) false
theorem Jm {α:Type} (e:α→List AV) (s:Nat) (d:α) (l:List α) (i j:Nat) (hj:j<s):Xr e s d l (i*s+j)=(e (l.getD i d)).getD j .any:=by
 unfold Xr
 rw [Nat.mul_comm,Nat.mul_add_div (by omega),Nat.mul_add_mod,Nat.div_eq_of_lt hj,Nat.mod_eq_of_lt hj,Nat.add_zero]
theorem Ju {α:Type} (e:α→List AV) (s:Nat) (d:α) (l:List α) (i:Nat) (hj:0<s):Xr e s d l (i*s)=(e (l.getD i d)).getD 0 .any:=by
 simpa using Jm e s d l i 0 hj
theorem JV {α:Type} (e:α→AV) (d:α) (l:List α) (j:Nat):Q3 e d l j=e (l.getD j d):=nrfl rfl
theorem pH (n:Int):I n=.int .i64 n:=nrfl rfl
theorem Xa (n:Int):Settled (I n):=Jc _ _
theorem D6 {α:Type} {e:α→AV} {d:α} {l:List α} (h:∀ a,Settled (e a)):Settled (Qb e d l):=QS fun _ _=>h _
theorem X4 (l:List Int):Settled (X6 l):=D6 Xa
theorem Bh (l:List Bool):Settled (KN l):=D6 X3
theorem J8 (l:List (List Int)):Settled (Bw l):=D6 X4
theorem Xg {l:List AV} (hl:∀ a∈l,Settled a) (j:Nat):Settled (l.getD j .any):=by
 rw [List.getD_eq_getElem?_getD]
 cases hx:l[j]? with
 | none=>exact B5
 | some x=>exact hl _ (List.mem_of_getElem? hx)
theorem D7 {α:Type} {e:α→List AV} {s:Nat} {d:α} {l:List α} (h:∀ a,∀ x∈e a,Settled x):Settled (pz e s d l):=QS fun _ _=>Xg (h _) _
theorem aI {α:Type} (e:α→AV) (d:α) (l m:List α):QH (l.length*1) (Q3 e d l) (m.length*1) (Q3 e d m)=Q3 e d (l ++ m):=by
 funext j
 unfold QH Q3
 simp only [Nat.mul_one,List.getD_eq_getElem?_getD]
 by_cases h1:j<l.length
 ·rw [if_pos h1,List.getElem?_append_left h1]
 ·rw [if_neg h1,List.getElem?_append_right (by omega)]
  by_cases h2:j<l.length+m.length
  ·rw [if_pos h2]
  ·rw [if_neg h2,List.getElem?_eq_none (by omega),List.getElem?_eq_none (by omega)]
theorem Od {α:Type} (e:α→AV) (d:α) (l:List α) (x:α):QH (l.length*1) (Q3 e d l) (1*1) (Xn [e x])=Q3 e d (l ++ [x]):=by
 rw [← aI e d l [x]]
 funext j
 unfold QH Xn Q3
 simp only [List.length_cons,List.length_nil,Nat.mul_one,Nat.zero_add]
 by_cases h1:j<l.length
 ·rw [if_pos h1,if_pos h1]
 ·by_cases h2:j<l.length+1
  ·obtain rfl:j=l.length:=by omega
   simp
  ·rw [if_neg h1,if_neg h2,if_neg h1,if_neg h2]
theorem US {α:Type} (e:α→AV) (d:α) (l:List α) (i:Nat) (x:α) (h:i<l.length):AJ (Q3 e d l) i (e x)=Q3 e d (l.set i x):=by
 funext j
 unfold AJ Q3
 simp only [List.getD_eq_getElem?_getD]
 by_cases hj:j=i
 ·subst hj; simp [h]
 ·rw [if_neg hj,List.getElem?_set_ne (Ne.symm hj)]
theorem UR (l:List AV) (i:Nat) (a:AV) (h:i<l.length):AJ (Xn l) i a=Xn (l.set i a):=by
 funext j
 unfold AJ Xn
 simp only [List.getD_eq_getElem?_getD]
 by_cases hj:j=i
 ·subst hj; simp [h]
 ·rw [if_neg hj,List.getElem?_set_ne (Ne.symm hj)]
structure Fn (P:Program) (f:FuncId) (args:List AV) (r:AV):Prop where
 call:PureCall P f args r
 settled:∀ a∈args,Settled a
theorem X1 {X:Env} {M:Md} {o:Oper} {g:FuncId} {caps args as':List AV} {K:AS→Prop} {s:AS} {r:AV} (h:Fn X.P g as' r) (ha:(args ++ caps).map AV.loose=as') (hK:K (s.putO o.dst r)) :
  Ez X M o (.fn g caps) args K s:=by
 subst ha
 exact ⟨r,s.h,⟨.inl g,caps,rfl,.inl ⟨_,GM _,h.call,h.settled,rfl⟩⟩,hK⟩
theorem XV {X:Env} {M:Md} {o:Oper} {g:FuncId} {caps args as':List AV} {K:AS→Prop} {s:AS} {r:AV} (h:Fn X.P g as' r) (ha:WeakL (args ++ caps) as') (hK:K (s.putO o.dst r)) :
  Ez X M o (.fn g caps) args K s :=
 ⟨r,s.h,⟨.inl g,caps,rfl,.inl ⟨_,ha,h.call,h.settled,rfl⟩⟩,hK⟩
theorem UU {n m m':Nat} {f f':Nat→AV} {t:Bool} (hm:m'≤m) (hf:∀ j,j<m'→f j=f' j):Weak (.sl n m f t) (.sl n m' f' false):=fun c v h=>by
 cases h with
 | sl b base _ _ cap _ _ us hS hc hr hn ht=>exact .sl b base n m' cap f' false us hS (fun j hj=>hc j (by omega)) (fun j hj=>by rw [← hf j hj]; exact hr j (by omega)) hn (by simp)
 | slz a cap _ _ ht =>
  obtain rfl:m'=0:=by omega
  exact .slz _ _ _ _ (by simp)
theorem Jo {X:Env} {M:Md} {o:Oper} {g:FuncId} {caps args as':List AV} {K:AS→Prop} {s:AS} {r:AV} (h:Fn X.P g as' r) (hst:M.strict M.i=false) (ha:SeesL s.h ((args ++ caps).map AV.loose) as') (hf:V1 r) (hK:K (s.putO o.dst r)) :
  Ez X M o (.fn g caps) args K s :=
 ⟨r,s.h,⟨.inl g,caps,rfl,.inr (.inl ⟨hst,as',ha,h.call,hf,rfl⟩)⟩,hK⟩
theorem Ke {X:Env} {M:Md} {o:Oper} {g:FuncId} {caps args as':List AV} {K:AS→Prop} {s:AS} {r:AV} {H':List AO} (hb:M.hcall=true) (h:HCall X.P g as' s.h r H') (hcon:DE s.h H')
  (hu:∀ id:Nat,s.h[id]?≠some .unborn) (ha:WeakL (args ++ caps) as') (hK:K (({ s with h:=H' }:AS).putO o.dst r)):Ez X M o (.fn g caps) args K s:=by
 refine ⟨r,H',⟨.inl g,caps,rfl,.inr (.inr ⟨hb,as',ha,fun _=>H',fun h2 ho=>?_,rfl,hcon,fun h2 id ob _ hid=>absurd hid (hu id),fun id hid=>absurd hid (hu id)⟩)⟩,hK⟩
 have:h2=s.h:=by
  apply List.ext_getElem?
  intro i
  exact ho i (hu i)
 rw [this]; exact h
theorem Fn.intro {P:Program} {f:FuncId} {fn:Func} {body:Code} (he:ZZ P f) (hf:P.funcs[f]?=some fn) (hb:fn.body=some body) (hm:P.follows .mixedOrders=true) {args:List AV} {r:AV}
  (n0:Nat) (hid str hcs:List Nat) (hok:Qj fn.ntmps str hcs body=true) (hlen:args.length≤fn.ntmps) (hs:∀ a∈args,Settled a)
  (h:Run (J4 P fn str hcs r) [.code body] (AS.start n0 hid args [])):Fn P f args r :=
 ⟨PureCall.intro he hf hb hm n0 hid str hcs hok hlen h,hs⟩
theorem CI {N:Nat} {c c':Ctx} {a:Act} {s:AS} (hst:St N c a s) (hx:Ext c c') (hr:HRel c') {i:Nat} {v:AV} (hv:Rep c' (a.tmps.getD i undef) v):St N c' a (({ s with h:=c'.H }:AS).put i v):=by
 refine ⟨hst.size,hst.defers,fun j=>?_,by simp,hr⟩
 rcases U6 ({ s with h:=c'.H }:AS) i j v with ⟨h1,h2⟩ | h1 | ⟨h1,h2⟩
 ·rw [h1,h2]; exact hv
 ·rw [h1]; exact .any _
 ·rw [h2]; exact hx.rep hst.hrel (hst.slots j)
theorem QL {m:Nat} {s:AS} (i es:Nat) (f:Nat→AV) {M:Nat} {g:Nat→AV} (hi:s.get i=.sl 0 M g true) :
  Sub m s (({ s with h:=s.h ++ [.row 0 0 f] }:AS).put i (.osl s.h.length 0 es 0 0)):=by
 intro N c a hst
 have hH:=hst.heap
 have hset:(c.H ++ [AO.row 0 0 f])[c.H.length]?=some (.row 0 0 f):=by simp
 have hoth:∀ i,i≠c.H.length→(c.H ++ [AO.row 0 0 f])[i]?=c.H[i]?:=fun i hi=>by
  have:=Zx (nid:=none) (h:=c.H) (o:=.row 0 0 f) i (by simpa [Qp] using hi)
  simpa [JZ] using this
 obtain ⟨g1,g2⟩:=Fv hst.hrel (id:=c.H.length) (ver:=0) (w:=c.w) hset hoth rfl (.inl (by simp))
 refine ⟨⟨c.w,c.S,JU c.γ c.H.length none,c.H ++ [.row 0 0 f]⟩,rfl,g2.toB m,?_⟩
 have hv:=hst.slots i
 rw [hi] at hv
 have:=CI hst g2 g1 (i:=i) (v:=.osl c.H.length 0 es 0 0) (by
  have hinf:inf (c.H ++ [AO.row 0 0 f]) c.H.length=some 0:=by simp [inf,AO.info]
  cases hq:a.tmps.getD i undef with
  | slice b n cap =>
   rw [hq] at hv
   cases hv with
   | sl _ _ _ _ _ _ _ _ _ _ _ _ ht=>have:=ht rfl; subst this; exact .oslz _ _ _ _ _ hinf
   | slz _ _ _ _ ht=>have:=ht rfl; subst this; exact .oslz _ _ _ _ _ hinf
  | _=>rw [hq] at hv; cases hv)
 simp only [hH] at this ⊢
 exact this
theorem IP {m:Nat} {s:AS} (i:Nat) {id ver es off n k M:Nat} {f:Nat→AV} (hi:s.get i=.osl id ver es off n) (ho:s.h[id]?=some (.con ver k f)) (hle:off+M≤k) (hM:n=0→M=0) :
  Sub m s (s.put i (.sl n M (fun j=>f (off+j)) false)):=by
 intro N c a hst
 have hH:=hst.heap
 refine ⟨c,rfl,(Ext.refl c).toB m,?_⟩
 rw [← hH] at ho
 have hinf:inf c.H id=some ver:=by simp [inf,ho,AO.info]
 have hns:¬ stale c.H id ver:=by
  rintro (⟨v',hi,hlt⟩ | hd)
  ·rw [hinf] at hi; cases hi; omega
  ·simp [inf,hd,AO.info] at hinf
 have hv:=hst.slots i
 rw [hi] at hv
 have hz:n=0→∀ b cap,Rep c (.slice b 0 cap) (.sl n M (fun j=>f (off+j)) false):=by
  rintro hn b cap
  rw [hn,hM hn]
  exact .slz _ _ _ _ (by simp)
 have:=CI hst (Ext.refl c) hst.hrel (i:=i) (v:=.sl n M (fun j=>f (off+j)) false) (by
  generalize a.tmps.getD i undef=q at hv
  cases hv with
  | osl _ _ _ _ _ cap b sz hi hg hn hcap hmx =>
   rcases hst.hrel.con id ver k f ho with ⟨h1,_⟩ | ⟨b',sz',cs,el,fr,h1,h2,h3,h4,h5,h6⟩
   ·rw [h1] at hg; cases hg
   ·rw [h1] at hg; cases hg
    refine .sl b off n M cap _ false (fun j=>cs.getD (off+j) undef) h5 (fun j hj=>?_) (fun j hj=>h6 _ (by omega)) hn (by simp)
    have hlt:off+j<cs.size:=by omega
    rw [cell_of_row c.w b _ cs el fr h2]
    simp [hlt,Array.getD]
  | oslz _ _ _ _ b hi=>exact hz rfl b 0
  | oslOld _ _ _ _ _ b cap hn hs=>exact absurd hs hns
  | oslzOld _ _ _ _ b hs=>exact absurd hs hns)
 rwa [show ({ s with h:=c.H }:AS)=s by rw [hH]] at this
theorem BG {m:Nat} {s:AS} (i:Nat) {id ver off k:Nat} {f:Nat→AV} (hi:s.get i=.ref id ver off) (ho:s.h[id]?=some (.con ver k f)) (hk:0<k) :
  Sub m s (s.put i (.ptr k f off)):=by
 intro N c a hst
 have hH:=hst.heap
 refine ⟨c,rfl,(Ext.refl c).toB m,?_⟩
 rw [← hH] at ho
 have hinf:inf c.H id=some ver:=by simp [inf,ho,AO.info]
 have hns:¬ stale c.H id ver:=by
  rintro (⟨v',hi,hlt⟩ | hd)
  ·rw [hinf] at hi; cases hi; omega
  ·simp [inf,hd,AO.info] at hinf
 have hv:=hst.slots i
 rw [hi] at hv
 have:=CI hst (Ext.refl c) hst.hrel (i:=i) (v:=.ptr k f off) (by
  generalize a.tmps.getD i undef=q at hv
  cases hv with
  | ref _ _ _ b sz hi hg =>
   rcases hst.hrel.con id ver k f ho with ⟨h1,h2⟩ | ⟨b',sz',cs,el,fr,h1,h2,h3,h4,h5,h6⟩
   ·omega
   ·rw [h1] at hg; cases hg
    have:=Rep.ptr (c:=c) b 0 k off f (fun j=>cs.getD j undef) h5 (fun j hj=>Ze h2 (by omega) j hj) h6
    rwa [Nat.zero_add] at this
  | refOld _ _ _ b hs=>exact absurd hs hns)
 rwa [show ({ s with h:=c.H }:AS)=s by rw [hH]] at this
end
end Go.Ab
namespace Go.Ab
open Go Go.RowKit
noncomputable section
@[congr] theorem obind_congr {α:Type} {o o':Option α} {K:α→Prop} (h:o=o'):XK o K=XK o' K:=by rw [h]
@[congr] theorem vc_congr {X:Env} {n:Nat} {k:List Item} {s s':AS} (h:s=s'):vc X n k s=vc X n k s':=by rw [h]
@[congr] theorem vcOps_congr {X:Env} {n:Nat} {M:Md} {os:List Oper} {k:List Item} {s s':AS} (h:s=s'):Xq X n M os k s=Xq X n M os k s':=by rw [h]
@[congr] theorem vcOp_congr {X:Env} {n:Nat} {M:Md} {o:Oper} {os:List Oper} {k:List Item} {s s':AS} (h:s=s'):XZ X n M o os k s=XZ X n M o os k s':=by rw [h]
@[congr] theorem runL_congr {X:Env} {k:List Item} {s s':AS} (h:s=s'):Vb X k s=Vb X k s':=by rw [h]
@[congr] theorem run_congr {X:Env} {k:List Item} {s s':AS} (h:s=s'):Run X k s=Run X k s':=by rw [h]
@[congr] theorem retOk_congr {X:Env} {s s':AS} (h:s=s'):RetOk X s=RetOk X s':=by rw [h]
@[congr] theorem retE_congr {X:Env} {s s':AS} (h:s=s'):RetE X s=RetE X s':=by rw [h]
@[congr] theorem callL_congr {X:Env} {M:Md} {o:Oper} {f f':AV} {args args':List AV} {K:AS→Prop} {s s':AS} (h1:f=f') (h2:args=args') (h3:s=s'):Ez X M o f args K s=Ez X M o f' args' K s':=by rw [h1,h2,h3]
@[congr] theorem drawS_congr {b:Bool} {ops:Array Oper} {s s':AS} (h:s=s'):HU b ops s=HU b ops s':=by rw [h]
def An (ops:Array Oper) (j:Nat):Option Nat:=(ops[j]?).bind (·.dst)
@[congr] theorem dstAt_congr {ops:Array Oper} {j j':Nat} (h:j=j'):An ops j=An ops j':=by rw [h]
theorem Sz (o:Oper) (l:List Oper):An (o :: l).toArray 0=o.dst:=by simp [An]
theorem Sy (o:Oper) (l:List Oper) (j:Nat):An (o :: l).toArray (j+1)=An l.toArray j:=by simp [An]
def Kj (b:Bool) (T F:Prop):Prop:=(b=true→T)∧(b=false→F)
@[congr] theorem guardP_congr {b b':Bool} {T F:Prop} (h:b=b'):Kj b T F=Kj b' T F:=by rw [h]
theorem QG {b:Bool} {T F:Prop} (h1:b=true→T) (h2:b=false→F):Kj b T F:=⟨h1,h2⟩
theorem Gq (T F:Prop):Kj true T F=T:=by simp [Kj]
theorem EU (T F:Prop):Kj false T F=F:=by simp [Kj]
theorem I5 (p:Prop) [Decidable p] (T F:Prop):Kj (decide p) T F=((p→T)∧(¬ p→F)):=by simp [Kj]
theorem Gp (p:Prop) [Decidable p] (T F:Prop):Kj (!decide p) T F=((¬ p→T)∧(p→F)):=by simp [Kj]
def q7 (a:AV) (T F:Prop):Prop:=match a with | .bool b=>Kj b T F | .abool=>T∧F | _=>False
@[congr] theorem cAt_congr {a a':AV} {T F:Prop} (h:a=a'):q7 a T F=q7 a' T F:=by rw [h]
theorem Om (b:Bool) (T F:Prop):q7 (.bool b) T F=Kj b T F:=nrfl rfl
def gM (a:AV) (T F U:Prop):Prop:=match a with | .bool b=>Kj b T F | .tup []=>U | _=>False
@[congr] theorem gAt_congr {a a':AV} {T F U:Prop} (h:a=a'):gM a T F U=gM a' T F U:=by rw [h]
theorem OR (b:Bool) (T F U:Prop):gM (.bool b) T F U=Kj b T F:=nrfl rfl
theorem LZ (T F U:Prop):gM XU T F U=U:=nrfl rfl
def jr (o:Option Nat) (K:Nat→Prop):Prop:=match o with | some e=>K e | none=>False
@[congr] theorem dAt_congr {o o':Option Nat} {K:Nat→Prop} (h:o=o'):jr o K=jr o' K:=by rw [h]
theorem Ow (e:Nat) (K:Nat→Prop):jr (some e) K=K e:=nrfl rfl
def oI (a:AV) (T F:Prop):Prop:=match a with | .bool true=>T | .bool false=>F | _=>False
@[congr] theorem pAt_congr {a a':AV} {T F:Prop} (h:a=a'):oI a T F=oI a' T F:=by rw [h]
theorem Pu (T F:Prop):oI (.bool true) T F=T:=nrfl rfl
theorem Mk (T F:Prop):oI (.bool false) T F=F:=nrfl rfl
def gP (a:AV) (j:Nat) (K:AV→Prop):Prop:=match a with | .tup l=>j<l.length∧K (l.getD j .any) | _=>False
@[congr] theorem xAt_congr {a a':AV} {j:Nat} {K:AV→Prop} (h:a=a'):gP a j K=gP a' j K:=by rw [h]
theorem Rx (a:AV) (l:List AV) (K:AV→Prop):gP (.tup (a :: l)) 0 K=K a:=by simp [gP]
theorem Rw (a:AV) (l:List AV) (j:Nat) (K:AV→Prop):gP (.tup (a :: l)) (j+1) K=gP (.tup l) j K:=by simp [gP]
def qf (o:Option (List Item)) (K:List Item→Prop):Prop:=match o with | some k=>K k | none=>False
@[congr] theorem eAt_congr {o o':Option (List Item)} {K:List Item→Prop} (h:o=o'):qf o K=qf o' K:=by rw [h]
theorem Oz (k:List Item) (K:List Item→Prop):qf (some k) K=K k:=nrfl rfl
theorem gi (X:Env) (n:Nat) (k:List Item) (s:AS) (o:Operand) (a b:Code):vc X (n+1) (.code (.cond o a b) :: k) s=q7 (s.ev o) (vc X n (.code a :: k) s) (vc X n (.code b :: k) s):=by
 rw [lF]
 unfold q7 Kj
 cases s.ev o <;> rfl
theorem gj (X:Env) (n:Nat) (k:List Item) (s:AS) (i:Nat):vc X (n+1) (.code (.exit i) :: k) s=qf (exitTo i k) fun k'=>vc X n k' s:=by
 rw [lG]
 unfold qf
 cases exitTo i k <;> rfl
theorem eI (X:Env) (n:Nat) (k:List Item) (s:AS) (all:Array Oper) (st:Nat→Bool) (hc:Bool) (bs:Option Nat) (i nx:Nat) (os:List Oper) (d:Option Nat) (t:TypeId) (p:String) (af:Array Edge) (g:Option (Nat×Bool)) (x y z:Operand) :
  XZ X (n+1) ⟨all,st,hc,bs,i,nx⟩ ⟨d,.pick x y z,t,p,af,g⟩ os k s=oI (s.ev x) (Xq X n ⟨all,st,hc,bs,i+1,nx⟩ os k (s.putO d (s.ev y))) (Xq X n ⟨all,st,hc,bs,i+1,nx⟩ os k (s.putO d (s.ev z))):=by
 rw [kF]
 unfold oI
 cases hx:s.ev x with
 | bool b=>cases b <;> rfl
 | _=>rfl
theorem Pq (X:Env) (n:Nat) (k:List Item) (s:AS) (all:Array Oper) (st:Nat→Bool) (hc:Bool) (bs:Option Nat) (i nx:Nat) (os:List Oper) (d:Option Nat) (t:TypeId) (p:String) (af:Array Edge) (g:Option (Nat×Bool)) (x:Operand) (j:Nat) :
  XZ X (n+1) ⟨all,st,hc,bs,i,nx⟩ ⟨d,.extract x j,t,p,af,g⟩ os k s=gP (s.ev x) j fun v=>Xq X n ⟨all,st,hc,bs,i+1,nx⟩ os k (s.putO d v):=by
 rw [T1]
 unfold gP
 cases hx:s.ev x <;> rfl
theorem Yp (X:Env) (n:Nat) (k:List Item) (s:AS) (all:Array Oper) (st:Nat→Bool) (hc:Bool) (bs:Option Nat) (i nx:Nat) (os:List Oper)
  (d:Option Nat) (op:Op) (t:TypeId) (p:String) (af:Array Edge) (j:Nat):Xq X (n+1) ⟨all,st,hc,bs,i,nx⟩ (⟨d,op,t,p,af,some (j,true)⟩ :: os) k s =
 jr (An all j) fun e=>gM (s.get e) (XZ X n ⟨all,st,hc,bs,i,nx⟩ ⟨d,op,t,p,af,some (j,true)⟩ os k (s.fix e (.bool true)))
  (Xq X n (Md.next ⟨all,st,hc,bs,i,nx⟩ ⟨d,op,t,p,af,some (j,true)⟩) os k ((s.fix e (.bool false)).putO d XU))
  (Xq X n (Md.next ⟨all,st,hc,bs,i,nx⟩ ⟨d,op,t,p,af,some (j,true)⟩) os k (s.putO d XU)):=by
 rw [GL]
 show (match An all j with | some e=>_ | none=>False)=_
 unfold jr
 cases An all j with
 | none=>rfl
 | some e =>
  simp only
  cases hx:s.get e with
  | bool b=>simp only [gM,Kj]; simp
  | tup l=>cases l <;> rfl
  | _=>rfl
theorem Yo (X:Env) (n:Nat) (k:List Item) (s:AS) (all:Array Oper) (st:Nat→Bool) (hc:Bool) (bs:Option Nat) (i nx:Nat) (os:List Oper)
  (d:Option Nat) (op:Op) (t:TypeId) (p:String) (af:Array Edge) (j:Nat):Xq X (n+1) ⟨all,st,hc,bs,i,nx⟩ (⟨d,op,t,p,af,some (j,false)⟩ :: os) k s =
 jr (An all j) fun e=>gM (s.get e) (Xq X n (Md.next ⟨all,st,hc,bs,i,nx⟩ ⟨d,op,t,p,af,some (j,false)⟩) os k ((s.fix e (.bool true)).putO d XU))
  (XZ X n ⟨all,st,hc,bs,i,nx⟩ ⟨d,op,t,p,af,some (j,false)⟩ os k (s.fix e (.bool false)))
  (Xq X n (Md.next ⟨all,st,hc,bs,i,nx⟩ ⟨d,op,t,p,af,some (j,false)⟩) os k (s.putO d XU)):=by
 rw [GL]
 show (match An all j with | some e=>_ | none=>False)=_
 unfold jr
 cases An all j with
 | none=>rfl
 | some e =>
  simp only
  cases hx:s.get e with
  | bool b=>simp only [gM,Kj]; simp
  | tup l=>cases l <;> rfl
  | _=>rfl
theorem Rn (X:Env) (n:Nat) (k:List Item) (s:AS) (all:Array Oper) (st:Nat→Bool) (hc:Bool) (i nx:Nat) (o:Oper) (os:List Oper) :
  Xq X n (Md.next ⟨all,st,hc,none,i,nx⟩ o) os k s=Xq X n ⟨all,st,hc,none,i+1,nx⟩ os k s:=nrfl rfl
theorem Ro (X:Env) (n:Nat) (k:List Item) (s:AS) (all:Array Oper) (st:Nat→Bool) (hc:Bool) (b i nx:Nat) (o:Oper) (os:List Oper) :
  Xq X n (Md.next ⟨all,st,hc,some b,i,nx⟩ o) os k s=if Ql hc o.op=2 then Xq X n ⟨all,st,hc,some b,i+1,nx+1⟩ os k s else Xq X n ⟨all,st,hc,some b,i+1,nx⟩ os k s:=by
 rw [WD]
 split <;> simp [*]
theorem Rm (X:Env) (n:Nat) (k:List Item) (s:AS) (all:Array Oper) (st:Nat→Bool) (hc:Bool) (bs:Option Nat) (i nx:Nat) (os:List Oper)
  (d:Option Nat) (op:Op) (t:TypeId) (p:String) (af:Array Edge):Xq X (n+1) ⟨all,st,hc,bs,i,nx⟩ (⟨d,op,t,p,af,none⟩ :: os) k s=XZ X n ⟨all,st,hc,bs,i,nx⟩ ⟨d,op,t,p,af,none⟩ os k s:=nrfl rfl
theorem W9 (i j:Nat) (k:List Item):exitTo i (.inBlock j :: k)=if i=j then some k else exitTo i k:=by
 simp only [exitTo,beq_iff_eq]
 first | rfl | (by_cases h:i=j <;> simp [h,eq_comm])
theorem OE (i:Nat) (c:Code) (k:List Item):exitTo i (.code c :: k)=exitTo i k:=nrfl rfl
theorem OG (i:Nat) (c:Code) (k:List Item):exitTo i (.inLoop c :: k)=exitTo i k:=nrfl rfl
@[congr] theorem exitTo_congr {i i':Nat} {k:List Item} (h:i=i'):exitTo i k=exitTo i' k:=by rw [h]
section
variable (P:Program) (fn:Func) (str hcs:List Nat) (b:Nat) (r:AV) (H':List AO)
theorem HW:(J4 P fn str hcs r).P=P:=nrfl rfl
theorem BR:(J4 P fn str hcs r).fn=fn:=nrfl rfl
theorem cL:(J4 P fn str hcs r).str=str:=nrfl rfl
theorem cK:(J4 P fn str hcs r).hcs=hcs:=nrfl rfl
theorem nT:(CD P fn str hcs b r H').P=P:=nrfl rfl
theorem U0:(CD P fn str hcs b r H').fn=fn:=nrfl rfl
theorem cE:(CD P fn str hcs b r H').str=str:=nrfl rfl
theorem cD:(CD P fn str hcs b r H').hcs=hcs:=nrfl rfl
end
section
variable (P:Program)
theorem CR {α:Type} {p:Prop} (h:p) (x:Option α):Q2 p x=x:=if_pos h
theorem Vg (op:BinOp) (t:TypeId) (i:Nat) (a b:AV):LA P op t (.tmp i) a b=Bl P op t a b:=nrfl rfl
theorem Vf (op:BinOp) (t:TypeId) (k:IntKind) (n:Int) (a b:AV):LA P op t (.const (.int k n)) a b=Bl P op t a b:=nrfl rfl
theorem YO (t:TypeId) (k:IntKind) (x y:Int):Bl P .add t (.int k x) (.int k y)=some (.int k (k.wrap (x+y))):=CR rfl _
theorem YY (t:TypeId) (k:IntKind) (x y:Int):Bl P .sub t (.int k x) (.int k y)=some (.int k (k.wrap (x - y))):=CR rfl _
theorem YU (t:TypeId) (k:IntKind) (x y:Int):Bl P .mul t (.int k x) (.int k y)=some (.int k (k.wrap (x*y))):=CR rfl _
theorem YW (t:TypeId) (k:IntKind) (x y:Int):Bl P .quo t (.int k x) (.int k y)=Q2 (y≠0) (some (.int k (k.wrap (x.tdiv y)))):=by simp [Bl]
theorem YX (t:TypeId) (k:IntKind) (x y:Int):Bl P .rem t (.int k x) (.int k y)=Q2 (y≠0) (some (.int k (x.tmod y))):=by simp [Bl]
theorem YP (t:TypeId) (k:IntKind) (x y:Int):Bl P .eql t (.int k x) (.int k y)=some (.bool (decide (x=y))):=CR rfl _
theorem YV (t:TypeId) (k:IntKind) (x y:Int):Bl P .neq t (.int k x) (.int k y)=some (.bool (!decide (x=y))):=CR rfl _
theorem YT (t:TypeId) (k:IntKind) (x y:Int):Bl P .lss t (.int k x) (.int k y)=some (.bool (decide (x<y))):=CR rfl _
theorem YS (t:TypeId) (k:IntKind) (x y:Int):Bl P .leq t (.int k x) (.int k y)=some (.bool (decide (x≤y))):=CR rfl _
theorem YR (t:TypeId) (k:IntKind) (x y:Int):Bl P .gtr t (.int k x) (.int k y)=some (.bool (decide (y<x))):=CR rfl _
theorem YQ (t:TypeId) (k:IntKind) (x y:Int):Bl P .geq t (.int k x) (.int k y)=some (.bool (decide (y≤x))):=CR rfl _
theorem Vh (t:TypeId) (x y:Bool):Bl P .eql t (.bool x) (.bool y)=Q2 (HH P t=true) (some (.bool (x == y))):=nrfl rfl
theorem Vi (t:TypeId) (x y:Bool):Bl P .neq t (.bool x) (.bool y)=Q2 (HH P t=true) (some (.bool (!(x == y)))):=nrfl rfl
theorem iB (b:Bool):ns .not (.bool b)=some (.bool !b):=nrfl rfl
theorem iA (k:IntKind) (n:Int):ns .neg (.int k n)=some (.int k (k.wrap (0 - n))):=nrfl rfl
theorem aG (k:IntKind) (x y:Int):Vs (.int k x) (.int k y)=some (.int k (if y<x then y else x)):=CR rfl _
theorem aF (k:IntKind) (x y:Int):Vr (.int k x) (.int k y)=some (.int k (if x<y then y else x)):=CR rfl _
end
theorem BB {α:Type} (x:Option α):Q2 True x=x:=if_pos trivial
theorem kB (k:IntKind) (n:Int):(AV.int k n).one=true:=nrfl rfl
theorem ez (b:Bool):(AV.bool b).one=true:=nrfl rfl
theorem kD (m:Nat) (f:Nat→AV) (o:Nat):(AV.ptr m f o).one=true:=nrfl rfl
theorem oH (n m:Nat) (f:Nat→AV) (t:Bool):(AV.sl n m f t).one=true:=nrfl rfl
theorem kE (i v o:Nat):(AV.ref i v o).one=true:=nrfl rfl
theorem kC (i v e o n:Nat):(AV.osl i v e o n).one=true:=nrfl rfl
theorem T0 (g:FuncId) (l:List AV):(AV.fn g l).one=true:=nrfl rfl
theorem VL (l:List AV):(AV.agg l).cells=l:=nrfl rfl
theorem VM (k:IntKind) (n:Int):AV.cells (.int k n)=[.int k n]:=nrfl rfl
theorem Wv (k:IntKind) (n:Int):AV.loose (.int k n)=.int k n:=nrfl rfl
theorem So (b:Bool):AV.cells (.bool b)=[.bool b]:=nrfl rfl
theorem SR (b:Bool):AV.loose (.bool b)=.bool b:=nrfl rfl
theorem VO (m:Nat) (f:Nat→AV) (o:Nat):AV.cells (.ptr m f o)=[.ptr m f o]:=nrfl rfl
theorem aX (n m:Nat) (f:Nat→AV) (t:Bool):AV.cells (.sl n m f t)=[.sl n m f t]:=nrfl rfl
theorem dN (n m:Nat) (f:Nat→AV) (t:Bool):AV.loose (.sl n m f t)=.sl n m f false:=nrfl rfl
theorem VP (i v o:Nat):AV.cells (.ref i v o)=[.ref i v o]:=nrfl rfl
theorem VN (i v e o n:Nat):AV.cells (.osl i v e o n)=[.osl i v e o n]:=nrfl rfl
theorem Ww (i v e o n:Nat):AV.loose (.osl i v e o n)=.osl i v e o n:=nrfl rfl
theorem VE (k:IntKind) (n:Int):AV.boxed (.int k n)=.int k n:=nrfl rfl
theorem Sm (b:Bool):AV.boxed (.bool b)=.bool b:=nrfl rfl
theorem VG (m:Nat) (f:Nat→AV) (o:Nat):AV.boxed (.ptr m f o)=.ptr m f o:=nrfl rfl
theorem VH (i v o:Nat):AV.boxed (.ref i v o)=.ref i v o:=nrfl rfl
theorem VF (i v e o n:Nat):AV.boxed (.osl i v e o n)=.osl i v e o n:=nrfl rfl
theorem VI (n m:Nat) (f:Nat→AV):AV.boxed (.sl n m f false)=.sl n m f false:=nrfl rfl
theorem VJ (n m:Nat) (f:Nat→AV):AV.boxed (.sl n m f true)=.sl n m f (n == 0):=nrfl rfl
theorem AH {P:Program} {fn:Func} {str hcs:List Nat} {r:AV} {s:AS} {t:Nat} (hr:fn.results=#[.tmp t]) (h:Jn s.h (s.get t) r):RetOk (J4 P fn str hcs r) s :=
 ⟨s.get t,by simp [Ku,BR,hr,QR,Jb,Zf],h⟩
theorem ft {P:Program} {fn:Func} {str hcs:List Nat} {r:AV} {s:AS} {t u:Nat} (hr:fn.results=#[.tmp t,.tmp u]) (h:Jn s.h (.tup [s.get t,s.get u]) r):RetOk (J4 P fn str hcs r) s :=
 ⟨.tup [s.get t,s.get u],by simp [Ku,BR,hr,QR,Jb,Zf],h⟩
theorem Ix {P:Program} {fn:Func} {str hcs:List Nat} {b:Nat} {r:AV} {H:List AO} {s:AS} {t:Nat} (hr:fn.results=#[.tmp t]) (h:s.get t=r) (hH:s.h=H):RetOk (CD P fn str hcs b r H) s :=
 ⟨s.get t,by simp [Ku,U0,hr,QR,Jb,Zf],h,hH⟩
theorem Qy {H:List AO} {a b:AV} (h:Settled b) (he:a=b):Jn H a b:=by subst he; exact h.sees H
theorem Fi {α:Type} {e:α→AV} {d:α} {l:List α} {H:List AO} {id ver n off:Nat} (he:∀ a,Settled (e a)) (ho:H[id]?=some (.row ver n (Q3 e d l))∨H[id]?=some (.con ver n (Q3 e d l))) (hn:l.length≤n) (hoff:off=0) :
  Jn H (.osl id ver 1 off l.length) (Qb e d l):=by
 subst hoff
 exact QD ho (by omega) (by omega) fun j _=>by rw [Nat.zero_add]; exact (he _).sees H
theorem ME {l:List Int} {H:List AO} {id ver n:Nat} (ho:H[id]?=some (.row ver n (Q3 I 0 l))) (hn:l.length≤n):Jn H (.osl id ver 1 0 l.length) (X6 l):=Fi Xa (.inl ho) hn rfl
theorem ZE {α:Type} {e:α→AV} {d:α} {l:List α} {H:List AO} {a:AV} {id ver n m:Nat} {g:Nat→AV} (he:∀ a,Settled (e a)) (ha:a=.osl id ver 1 0 m) (ho:H[id]?=some (.row ver n g)) (hm:m=l.length) (hg:g=Q3 e d l) (hn:l.length≤n):Jn H a (Qb e d l):=by
 subst ha; subst hm; subst hg; exact Fi he (.inl ho) hn rfl
theorem Pm (a:AV):(∀ j,j<1→(Xn [a] j).one=true)=(a.one=true):=by
 apply propext
 constructor
 ·intro h; exact h 0 (by omega)
 ·intro h j hj
  obtain rfl:j=0:=by omega
  exact h
theorem E5 (l:List Int) (x:Int):QH l.length (Q3 I 0 l) 1 (Xn [.int .i64 x])=Q3 I 0 (l ++ [x]):=by
 have:=Od I 0 l x
 rw [Nat.mul_one,Nat.mul_one] at this
 exact this
theorem PH {c c':Ctx} (hw:c'.w=c.w) (hS:c'.S=c.S) (hγ:c'.γ=c.γ) (hi:∀ id,inf c'.H id=inf c.H id) (hd:∀ id:Nat,c'.H[id]?=some AO.dead↔c.H[id]?=some AO.dead)
  (hm:∀ (id:Nat) k g,c.H[id]?=some (AO.map k g)→c'.H[id]?=some (AO.map k g)) {v:Value} {a:AV} (h:Rep c v a):Rep c' v a :=
 h.ext (fun b hb=>by rw [hS]; exact hb) (fun b _=>by rw [hw]) (by
  intro id o ho
  have key:∀ v,inf c.H id=some v→(c'.H[id]?=some .dead∨∃ v',Ab.inf c'.H id=some v'∧(v<v'∨(v'=v∧c'.γ id=c.γ id))) :=
   fun v hv=>.inr ⟨v,by rw [hi]; exact hv,.inr ⟨rfl,by rw [hγ]⟩⟩
  cases o with
  | unborn=>trivial
  | dead=>exact (hd id).2 ho
  | row v _ _=>exact key v (by simp [inf,ho,AO.info])
  | con v _ _=>exact key v (by simp [inf,ho,AO.info])
  | map k g=>exact .inr ⟨⟨k,g,hm id k g ho⟩,by rw [hγ]⟩)
theorem QM {m:Nat} {s:AS} (id:Nat) {ver n:Nat} {f:Nat→AV} (n':Nat) (g:Nat→AV) (ho:s.h[id]?=some (.row ver n f)) (hn':n'≤n) (hfg:∀ j,j<n'→f j=g j):Sub m s { s with h:=s.h.set id (.row ver n' g) }:=by
 intro N c a hst
 have hH:=hst.heap
 rw [← hH] at ho
 have hlt:=(List.getElem?_eq_some_iff.1 ho).1
 have hat:(c.H.set id (.row ver n' g))[id]?=some (.row ver n' g):=by simp [hlt]
 have hoth:∀ i,i≠id→(c.H.set id (AO.row ver n' g))[i]?=c.H[i]?:=fun i hi=>List.getElem?_set_ne (Ne.symm hi)
 let c':Ctx:=⟨c.w,c.S,c.γ,c.H.set id (.row ver n' g)⟩
 have hinf:∀ i,inf c'.H i=inf c.H i:=fun i=>by
  by_cases hi:i=id
  ·subst hi; simp [inf,c',hat,ho,AO.info]
  ·simp [inf,c',hoth i hi]
 have hdead:∀ i:Nat,c'.H[i]?=some AO.dead↔c.H[i]?=some AO.dead:=fun i=>by
  by_cases hi:i=id
  ·subst hi; simp [c',hat,ho]
  ·simp [c',hoth i hi]
 have hmap:∀ (i:Nat) k q,c.H[i]?=some (AO.map k q)↔c'.H[i]?=some (AO.map k q):=fun i k q=>by
  by_cases hi:i=id
  ·subst hi; simp [c',hat,ho]
  ·simp [c',hoth i hi]
 have hrep:∀ {v a},Rep c v a→Rep c' v a:=fun hv=>PH (c:=c) (c':=c') rfl rfl rfl hinf hdead (fun i k q=>(hmap i k q).1) hv
 have howns:∀ b,KR c' b→KR c b:=by
  rintro b ⟨i,o,sz,hoi,hown,hg⟩
  by_cases hi:i=id
  ·subst hi; exact ⟨i,_,sz,ho,rfl,hg⟩
  ·exact ⟨i,o,sz,by rw [← hoth i hi]; exact hoi,hown,hg⟩
 have hext:Ext c c':=by
  refine ⟨?_,fun b h=>h,fun b h=>.inl h,fun b h=>.inr (howns b h),fun _ _ _=>rfl,Nat.le_refl _,rfl,rfl,rfl⟩
  intro i o hoi
  have key:∀ v,inf c.H i=some v→(c'.H[i]?=some .dead∨∃ v',Ab.inf c'.H i=some v'∧(v<v'∨(v'=v∧c'.γ i=c.γ i))) :=
   fun v hv=>.inr ⟨v,by rw [hinf]; exact hv,.inr ⟨rfl,rfl⟩⟩
  cases o with
  | unborn=>trivial
  | dead=>exact (hdead i).2 hoi
  | row v _ _=>exact key v (by simp [inf,hoi,AO.info])
  | con v _ _=>exact key v (by simp [inf,hoi,AO.info])
  | map k q=>exact .inr ⟨⟨k,q,(hmap i k q).1 hoi⟩,rfl⟩
 refine ⟨c',rfl,hext.toB m,hst.size,hst.defers,fun i=>hrep (hst.slots i),by simp [c',hH],?_⟩
 refine ⟨?_,?_,?_,?_,hst.hrel.bound⟩
 ·intro i v k q hoi
  by_cases hi:i=id
  ·subst hi
   simp only [c'] at hoi
   rw [hat] at hoi; cases hoi
   rcases hst.hrel.row i ver n f ho with h | ⟨b,sz,cs,el,h1,h2,h3,h4,h5,h6⟩
   ·exact .inl ⟨h.1,by omega⟩
   ·exact .inr ⟨b,sz,cs,el,h1,h2,h3,by omega,h5,fun j hj=>by rw [← hfg j hj]; exact hrep (h6 j (by omega))⟩
  ·simp only [c'] at hoi
   rw [hoth i hi] at hoi
   rcases hst.hrel.row i v k q hoi with h | ⟨b,sz,cs,el,h1,h2,h3,h4,h5,h6⟩
   ·exact .inl h
   ·exact .inr ⟨b,sz,cs,el,h1,h2,h3,h4,h5,fun j hj=>hrep (h6 j hj)⟩
 ·intro i v k q hoi
  by_cases hi:i=id
  ·subst hi; simp only [c'] at hoi; rw [hat] at hoi; cases hoi
  ·simp only [c'] at hoi
   rw [hoth i hi] at hoi
   rcases hst.hrel.con i v k q hoi with h | ⟨b,sz,cs,el,fr,h1,h2,h3,h4,h5,h6⟩
   ·exact .inl h
   ·exact .inr ⟨b,sz,cs,el,fr,h1,h2,h3,h4,h5,fun j hj=>hrep (h6 j hj)⟩
 ·intro i k q hoi
  obtain ⟨b,sz,es,cl,h1,h2,h3,h4⟩:=hst.hrel.map i k q ((hmap i k q).2 hoi)
  exact ⟨b,sz,es,cl,h1,h2,h3,h4.ext fun v a hv=>hrep hv⟩
 ·intro i i' o o' b sz sz' hoi hoi' h1 h2 hg hg'
  have key:∀ (i:Nat) o,c'.H[i]?=some o→o.owned=true→∃ o2:AO,c.H[i]?=some o2∧o2.owned=true:=by
   intro i o hoi h
   by_cases hi:i=id
   ·subst hi; exact ⟨_,ho,rfl⟩
   ·exact ⟨o,by rw [← hoth i hi]; exact hoi,h⟩
  obtain ⟨o2,k1,k2⟩:=key i o hoi h1
  obtain ⟨o3,k3,k4⟩:=key i' o' hoi' h2
  exact hst.hrel.inj _ _ _ _ _ _ _ k1 k3 k2 k4 hg hg'
def rT (n0:Nat) (hid:List Nat) (sl:List AV) (tm:List (Nat×AV)) (h:List AO):AS:=⟨n0,hid,sl,tm,h⟩
def Bk (s:AS):AS:=s
theorem kv (n0:Nat) (hid:List Nat) (sl:List AV) (tm:List (Nat×AV)) (h:List AO):Bk ⟨n0,hid,sl,tm,h⟩=rT n0 hid sl tm h:=nrfl rfl
def Qx (s:AS) (K:AS→Prop):Prop:=K s
@[congr] theorem normS_congr {s s':AS} {K:AS→Prop} (h:s=s'):Qx s K=Qx s' K:=by rw [h]
theorem Pk (n0:Nat) (hid:List Nat) (sl:List AV) (tm:List (Nat×AV)) (h:List AO) (K:AS→Prop):Qx (rT n0 hid sl tm h) K=K ⟨n0,hid,sl,tm,h⟩:=nrfl rfl
section
variable (X:Env) (n:Nat) (k:List Item) (s:AS)
theorem RL (id:Nat) (ops:List Oper):vc X (n+1) (.code (.region id ops.toArray false) :: k) s=(Qx (Bk s.clr) fun s=>Xq X n ⟨ops.toArray,GI X.str id,true,none,0,0⟩ ops k s):=nrfl rfl
theorem YG (id:Nat) (ops:List Oper):vc X (n+1) (.code (.region id ops.toArray true) :: k) s =
 (Qx (Bk (s.frz (DM X.str id))) fun s=>Qx (Bk (HU (X.hcs.contains id) ops.toArray s)) fun s'=>Xq X n ⟨ops.toArray,GI X.str id,X.hcs.contains id,some s.h.length,0,s.h.length⟩ ops k s'):=nrfl rfl
theorem ko:s.frz []=s:=nrfl rfl
theorem dk (i:Nat) (l:List Nat):s.frz (i :: l)=(kl s (s.get i)).frz l:=nrfl rfl
theorem dh (id ver off:Nat):kl s (.ref id ver off)=Wg s id s.h[id]?:=nrfl rfl
theorem dj (n0:Nat) (hid:List Nat) (sl:List AV) (tm:List (Nat×AV)) (h:List AO) (id ver n:Nat) (f:Nat→AV):Wg ⟨n0,hid,sl,tm,h⟩ id (some (.row ver n f))=⟨n0,hid,sl,tm,h.set id (.con ver n f)⟩:=nrfl rfl
theorem di (n0:Nat) (hid:List Nat) (sl:List AV) (tm:List (Nat×AV)) (h:List AO) (id ver n:Nat) (f:Nat→AV):Wg ⟨n0,hid,sl,tm,h⟩ id (some (.con ver n f))=⟨n0,hid,sl,tm,h⟩:=nrfl rfl
theorem Wf (id:Nat):DM [] id=[]:=nrfl rfl
theorem SJ (n:Nat) (l:List Nat) (id:Nat):DM (n :: l) id=if n / 10000000=id+1 then n % 10000000 :: DM l id else DM l id:=nrfl rfl
variable (all:Array Oper) (st:Nat→Bool) (hc:Bool) (bs:Option Nat) (i nx:Nat) (os:List Oper) (d:Option Nat) (t:TypeId) (p:String) (af:Array Edge) (g:Option (Nat×Bool))
theorem RJ (op:Op) (j:Nat):Xq X (n+1) ⟨all,st,hc,bs,i,nx⟩ (⟨d,op,t,p,af,some (j,true)⟩ :: os) k s =
 jr (An all j) fun e=>gM (s.get e) (Qx (Bk (s.fix e (.bool true))) fun s=>XZ X n ⟨all,st,hc,bs,i,nx⟩ ⟨d,op,t,p,af,some (j,true)⟩ os k s)
  (Qx (Bk ((s.fix e (.bool false)).putO d XU)) fun s=>Xq X n (Md.next ⟨all,st,hc,bs,i,nx⟩ ⟨d,op,t,p,af,some (j,true)⟩) os k s)
  (Qx (Bk (s.putO d XU)) fun s=>Xq X n (Md.next ⟨all,st,hc,bs,i,nx⟩ ⟨d,op,t,p,af,some (j,true)⟩) os k s):=Yp X n k s all st hc bs i nx os d op t p af j
theorem RI (op:Op) (j:Nat):Xq X (n+1) ⟨all,st,hc,bs,i,nx⟩ (⟨d,op,t,p,af,some (j,false)⟩ :: os) k s =
 jr (An all j) fun e=>gM (s.get e) (Qx (Bk ((s.fix e (.bool true)).putO d XU)) fun s=>Xq X n (Md.next ⟨all,st,hc,bs,i,nx⟩ ⟨d,op,t,p,af,some (j,false)⟩) os k s)
  (Qx (Bk (s.fix e (.bool false))) fun s=>XZ X n ⟨all,st,hc,bs,i,nx⟩ ⟨d,op,t,p,af,some (j,false)⟩ os k s)
  (Qx (Bk (s.putO d XU)) fun s=>Xq X n (Md.next ⟨all,st,hc,bs,i,nx⟩ ⟨d,op,t,p,af,some (j,false)⟩) os k s):=Yo X n k s all st hc bs i nx os d op t p af j
theorem RH (M:Md) (f:Operand) (args:Array Operand) (ts:Array TypeId) :
 XZ X (n+1) M ⟨d,.call { callee:=.value f,args:=args,argTypes:=ts },t,p,af,g⟩ os k s =
  lY X M ⟨d,.call { callee:=.value f,args:=args,argTypes:=ts },t,p,af,g⟩
   (fun s'=>Qx (Bk s') fun s'=>Xq X n (M.next ⟨d,.call { callee:=.value f,args:=args,argTypes:=ts },t,p,af,g⟩) os k s') .mk (s.ev f) (args.toList.map s.ev) s:=nrfl rfl
theorem YI:vc X 0 k s=Vc X k .mk s:=nrfl (by unfold vc; rfl)
theorem ia:vc X (n+1) (.code .ret :: k) s=rf X .mk s:=nrfl rfl
theorem i9:vc X (n+1) [] s=re X .mk s:=nrfl rfl
theorem YH (b:Code):vc X (n+1) (.code (.loop b) :: k) s=Vc X (.code (.loop b) :: k) .mk s:=nrfl rfl
theorem RK (b:Code):vc X (n+1) (.inLoop b :: k) s=Vc X (.inLoop b :: k) .mk s:=nrfl rfl
theorem YE (x y z:Operand):XZ X (n+1) ⟨all,st,hc,bs,i,nx⟩ ⟨d,.pick x y z,t,p,af,g⟩ os k s =
  oI (s.ev x) (Qx (Bk (s.putO d (s.ev y))) fun s=>Xq X n ⟨all,st,hc,bs,i+1,nx⟩ os k s) (Qx (Bk (s.putO d (s.ev z))) fun s=>Xq X n ⟨all,st,hc,bs,i+1,nx⟩ os k s):=by
 rw [eI]; rfl
theorem NS (x:Operand) (j:Nat):XZ X (n+1) ⟨all,st,hc,bs,i,nx⟩ ⟨d,.extract x j,t,p,af,g⟩ os k s=gP (s.ev x) j fun v=>(Qx (Bk (s.putO d v)) fun s=>Xq X n ⟨all,st,hc,bs,i+1,nx⟩ os k s):=by
 rw [Pq]; rfl
theorem YD (x:Operand):XZ X (n+1) ⟨all,st,hc,bs,i,nx⟩ ⟨d,.move x,t,p,af,g⟩ os k s=(Qx (Bk (s.putO d (s.ev x))) fun s=>Xq X n ⟨all,st,hc,bs,i+1,nx⟩ os k s):=by
 first | (rw [Um]; rfl) | rw [Um]
theorem RF (x:Operand):XZ X (n+1) ⟨all,st,hc,bs,i,nx⟩ ⟨d,.assign x,t,p,af,g⟩ os k s=(Qx (Bk (s.putO d (s.ev x))) fun s=>Xq X n ⟨all,st,hc,bs,i+1,nx⟩ os k s):=by
 first | (rw [Mi]; rfl) | rw [Mi]
theorem Yz (u:TypeId) (x:Operand):XZ X (n+1) ⟨all,st,hc,bs,i,nx⟩ ⟨d,.load u x,t,p,af,g⟩ os k s=XK (Jz X.P (st i) u (s.ev x) s.h) fun v=>(Qx (Bk (s.putO d v)) fun s=>Xq X n ⟨all,st,hc,bs,i+1,nx⟩ os k s):=by
 first | (rw [Uk]; rfl) | rw [Uk]
theorem gV (o:BinOp) (u u':TypeId) (x y:Operand):XZ X (n+1) ⟨all,st,hc,bs,i,nx⟩ ⟨d,.binOp o u x y u',t,p,af,g⟩ os k s=XK (LA X.P o u y (s.ev x) (s.ev y)) fun v=>(Qx (Bk (s.putO d v)) fun s=>Xq X n ⟨all,st,hc,bs,i+1,nx⟩ os k s):=by
 first | (rw [eD]; rfl) | rw [eD]
theorem mX (o:UnOp) (u:TypeId) (x:Operand):XZ X (n+1) ⟨all,st,hc,bs,i,nx⟩ ⟨d,.unOp o u x,t,p,af,g⟩ os k s=XK (ns o (s.ev x)) fun v=>(Qx (Bk (s.putO d v)) fun s=>Xq X n ⟨all,st,hc,bs,i+1,nx⟩ os k s):=by
 first | (rw [mq]; rfl) | rw [mq]
theorem Yx (u u':TypeId) (x:Operand):XZ X (n+1) ⟨all,st,hc,bs,i,nx⟩ ⟨d,.convert u u' x,t,p,af,g⟩ os k s=XK (LB X.P u u' (s.ev x)) fun v=>(Qx (Bk (s.putO d v)) fun s=>Xq X n ⟨all,st,hc,bs,i+1,nx⟩ os k s):=by
 first | (rw [Ui]; rfl) | rw [Ui]
theorem L6 (u:TypeId) (x y:Operand):XZ X (n+1) ⟨all,st,hc,bs,i,nx⟩ ⟨d,.indexAddr u x y,t,p,af,g⟩ os k s=XK (DW X.P u (s.ev x) (s.ev y)) fun v=>(Qx (Bk (s.putO d v)) fun s=>Xq X n ⟨all,st,hc,bs,i+1,nx⟩ os k s):=by
 first | (rw [F7]; rfl) | rw [F7]
theorem YF (u:TypeId) (x:Operand):XZ X (n+1) ⟨all,st,hc,bs,i,nx⟩ ⟨d,.sliceToArrayPointer u x,t,p,af,g⟩ os k s=XK (LI X.P u (s.ev x)) fun v=>(Qx (Bk (s.putO d v)) fun s=>Xq X n ⟨all,st,hc,bs,i+1,nx⟩ os k s):=by
 first | (rw [Un]; rfl) | rw [Un]
theorem L5 (u:TypeId) (x:Operand) (j:Nat):XZ X (n+1) ⟨all,st,hc,bs,i,nx⟩ ⟨d,.fieldAddr u x j,t,p,af,g⟩ os k s=XK (Dg X.P u (s.ev x) j) fun v=>(Qx (Bk (s.putO d v)) fun s=>Xq X n ⟨all,st,hc,bs,i+1,nx⟩ os k s):=by
 first | (rw [F6]; rfl) | rw [F6]
theorem V4 (u:TypeId) (ps:Array (Nat×Operand)):XZ X (n+1) ⟨all,st,hc,bs,i,nx⟩ ⟨d,.build u ps,t,p,af,g⟩ os k s=XK (FD X.P u (ps.toList.map fun q=>(q.1,s.ev q.2))) fun v=>(Qx (Bk (s.putO d v)) fun s=>Xq X n ⟨all,st,hc,bs,i+1,nx⟩ os k s):=by
 first | (rw [Po]; rfl) | rw [Po]
theorem Hu (u:TypeId) (m:Nat) (ps:Array (Nat×Operand)):XZ X (n+1) ⟨all,st,hc,bs,i,nx⟩ ⟨d,.buildSlice u m ps,t,p,af,g⟩ os k s=XK (ZJ X.P u m (ps.toList.map fun q=>(q.1,s.ev q.2))) fun v=>(Qx (Bk (s.putO d v)) fun s=>Xq X n ⟨all,st,hc,bs,i+1,nx⟩ os k s):=by
 first | (rw [DO]; rfl) | rw [DO]
theorem V8 (u:TypeId) (x y:Operand):XZ X (n+1) ⟨all,st,hc,bs,i,nx⟩ ⟨d,.store u x y,t,p,af,g⟩ os k s=XK (Ai X.P (st i) u (s.ev x) (s.ev y) s.h) fun h'=>(Qx (Bk (({ s with h:=h' }:AS).putO d XU)) fun s=>Xq X n ⟨all,st,hc,bs,i+1,nx⟩ os k s):=by
 first | (rw [Pt]; rfl) | rw [Pt]
theorem MN (x:Operand):XZ X (n+1) ⟨all,st,hc,bs,i,nx⟩ ⟨d,.nilCheck x,t,p,af,g⟩ os k s=((s.ev x).isPtr=true∧(Qx (Bk (s.putO d (s.ev x))) fun s=>Xq X n ⟨all,st,hc,bs,i+1,nx⟩ os k s)):=by
 first | (rw [Gw]; rfl) | rw [Gw]
theorem V7 (u:TypeId) (x:Operand) (lo hi:Option Operand):XZ X (n+1) ⟨all,st,hc,bs,i,nx⟩ ⟨d,.slice u x lo hi none,t,p,af,g⟩ os k s =
  XK (Cw X.P u (s.ev x) (lo.map s.ev) (hi.map s.ev) none) fun v=>(Qx (Bk (s.putO d v)) fun s=>Xq X n ⟨all,st,hc,bs,i+1,nx⟩ os k s):=by
 first | (rw [Ps]; rfl) | rw [Ps]
theorem RG (u:TypeId) (x:Operand) (lo:Option Operand) (hi mx:Operand):XZ X (n+1) ⟨all,st,hc,bs,i,nx⟩ ⟨d,.slice u x lo (some hi) (some mx),t,p,af,g⟩ os k s =
  XK (Cw X.P u (s.ev x) (lo.map s.ev) (some (s.ev hi)) (some (s.ev mx))) fun v=>(Qx (Bk (s.putO d v)) fun s=>Xq X n ⟨all,st,hc,bs,i+1,nx⟩ os k s):=by
 first | (rw [Mj]; rfl) | rw [Mj]
theorem MM (f:FuncId) (caps:Array Operand):XZ X (n+1) ⟨all,st,hc,bs,i,nx⟩ ⟨d,.makeFunc (.func f) #[] caps,t,p,af,g⟩ os k s=(Qx (Bk (s.putO d (.fn f (caps.toList.map s.ev)))) fun s=>Xq X n ⟨all,st,hc,bs,i+1,nx⟩ os k s):=by
 first | (rw [Gv]; rfl) | rw [Gv]
theorem gX (x:Operand) (u:TypeId):XZ X (n+1) ⟨all,st,hc,bs,i,nx⟩ ⟨d,.call { callee:=.builtin .len,args:=#[x],argTypes:=#[u] },t,p,af,g⟩ os k s =
  XK (S0 X.P u (s.ev x)) fun v=>(Qx (Bk (s.putO d v)) fun s=>Xq X n ⟨all,st,hc,bs,i+1,nx⟩ os k s):=by
 first | (rw [eF]; rfl) | rw [eF]
theorem gZ (x y:Operand) (us:Array TypeId):XZ X (n+1) ⟨all,st,hc,bs,i,nx⟩ ⟨d,.call { callee:=.builtin .min,args:=#[x,y],argTypes:=us },t,p,af,g⟩ os k s =
  XK (Vs (s.ev x) (s.ev y)) fun v=>(Qx (Bk (s.putO d v)) fun s=>Xq X n ⟨all,st,hc,bs,i+1,nx⟩ os k s):=by
 first | (rw [eH]; rfl) | rw [eH]
theorem gY (x y:Operand) (us:Array TypeId):XZ X (n+1) ⟨all,st,hc,bs,i,nx⟩ ⟨d,.call { callee:=.builtin .max,args:=#[x,y],argTypes:=us },t,p,af,g⟩ os k s =
  XK (Vr (s.ev x) (s.ev y)) fun v=>(Qx (Bk (s.putO d v)) fun s=>Xq X n ⟨all,st,hc,bs,i+1,nx⟩ os k s):=by
 first | (rw [eG]; rfl) | rw [eG]
theorem RE (x y:Operand) (u:TypeId):XZ X (n+1) ⟨all,st,hc,bs,i,nx⟩ ⟨d,.call { callee:=.builtin .append,args:=#[x,y],argTypes:=#[u,u] },t,p,af,g⟩ os k s =
  XK (K2 X.P u (s.ev x) (s.ev y) s.h) fun r=>(Qx (Bk (({ s with h:=r.2 }:AS).putO d r.1)) fun s=>Xq X n ⟨all,st,hc,bs,i+1,nx⟩ os k s):=by
 first | (rw [Mh]; rfl) | rw [Mh]
theorem Yy (x y:Operand) (u u':TypeId):XZ X (n+1) ⟨all,st,hc,bs,i,nx⟩ ⟨d,.call { callee:=.builtin .copy,args:=#[x,y],argTypes:=#[u,u'] },t,p,af,g⟩ os k s =
  XK (DF X.P u (s.ev x) (s.ev y) s.h) fun r=>(Qx (Bk (({ s with h:=r.2 }:AS).putO d r.1)) fun s=>Xq X n ⟨all,st,hc,bs,i+1,nx⟩ os k s):=by
 first | (rw [Uj]; rfl) | rw [Uj]
theorem V5 (x:Operand) (u:TypeId):XZ X (n+1) ⟨all,st,hc,bs,i,nx⟩ ⟨d,.call { callee:=.builtin .clear,args:=#[x],argTypes:=#[u] },t,p,af,g⟩ os k s =
  XK (Ba X.P u (s.ev x) s.h) fun r=>(Qx (Bk (({ s with h:=r.2 }:AS).putO d r.1)) fun s=>Xq X n ⟨all,st,hc,bs,i+1,nx⟩ os k s):=by
 first | (rw [Pp]; rfl) | rw [Pp]
theorem V3 (u:TypeId):XZ X (n+1) ⟨all,st,hc,none,i,nx⟩ ⟨d,.alloc u,t,p,af,g⟩ os k s =
  XK (Zr X.P none u s.h) fun r=>(Qx (Bk (({ s with h:=r.2 }:AS).putO d r.1)) fun s=>Xq X n ⟨all,st,hc,none,i+1,nx⟩ os k s):=by
 first | (rw [Pn]; rfl) | rw [Pn]
theorem gW (u:TypeId) (x:Operand):XZ X (n+1) ⟨all,st,hc,none,i,nx⟩ ⟨d,.box u x,t,p,af,g⟩ os k s =
  XK (L9 none (s.ev x) s.h) fun r=>(Qx (Bk (({ s with h:=r.2 }:AS).putO d r.1)) fun s=>Xq X n ⟨all,st,hc,none,i+1,nx⟩ os k s):=by
 first | (rw [eE]; rfl) | rw [eE]
theorem YB (u:TypeId) (x y:Operand):XZ X (n+1) ⟨all,st,hc,none,i,nx⟩ ⟨d,.makeSlice u x y,t,p,af,g⟩ os k s =
  XK (AM X.P none u (s.ev x) (s.ev y) s.h) fun r=>(Qx (Bk (({ s with h:=r.2 }:AS).putO d r.1)) fun s=>Xq X n ⟨all,st,hc,none,i+1,nx⟩ os k s):=by
 first | (rw [Ul]; rfl) | rw [Ul]
variable (b:Nat)
theorem RD (u:TypeId):XZ X (n+1) ⟨all,st,hc,some b,i,nx⟩ ⟨d,.alloc u,t,p,af,g⟩ os k s =
  (s.h[nx]?=some .unborn∧XK (Zr X.P (some nx) u s.h) fun r=>(Qx (Bk (({ s with h:=r.2 }:AS).putO d r.1)) fun s=>Xq X n ⟨all,st,hc,some b,i+1,nx+1⟩ os k s)):=by
 first | (rw [Mg]; rfl) | rw [Mg]
theorem V6 (u:TypeId) (x y:Operand):XZ X (n+1) ⟨all,st,hc,some b,i,nx⟩ ⟨d,.makeSlice u x y,t,p,af,g⟩ os k s =
  (s.h[nx]?=some .unborn∧XK (AM X.P (some nx) u (s.ev x) (s.ev y) s.h) fun r=>(Qx (Bk (({ s with h:=r.2 }:AS).putO d r.1)) fun s=>Xq X n ⟨all,st,hc,some b,i+1,nx+1⟩ os k s)):=by
 first | (rw [Pr]; rfl) | rw [Pr]
end
theorem oF (l:List AV) (j:Nat):Xn l j=l.getD j .any:=nrfl rfl
theorem WG (a:AV):(∀ j,j<1→(([a]:List AV).getD j .any).one=true)=(a.one=true):=Pm a
theorem gK (a:AV):Ex [a]=fun _=>a:=nrfl rfl
theorem X0 {X:Env} (n:Nat) {k:List Item} {s:AS} (h:Qx (Bk s) fun s=>vc X n k s):Run X k s:=gm n h
end
end Go.Ab
