/- A layer of abstract values and heaps over the model; what is proved here is that its steps and contracts are sound, for every program. -/
import Derived.Test.YtcmfnmceomhgcaaGreatAb1
set_option linter.unusedSimpArgs false
set_option linter.unusedVariables false
namespace Go.Ab
open Go Go.RowKit
noncomputable section
def Kept (c:Ctx)(l:Nat)(o:Obj):Prop:=c.w.heap[l]?=some o∧¬c.S l∧¬ZK c l
theorem Kept.lt {c:Ctx}{l:Nat}{o:Obj}(h:Kept c l o):l<c.w.heap.size:=(Array.getElem?_eq_some_iff.1 h.1).1
theorem Kept.ext {m:Nat}{c c':Ctx}{l:Nat}{o:Obj}(h:Kept c l o)(hx:ExtB m c c'):Kept c' l o:=by
 have hlt:=h.lt;refine⟨(hx.same l hlt h.2.2).trans h.1,fun hs=>?_,fun ho=>?_⟩
 ·rcases hx.snew l hs with h1 |h1 |h1
  ·exact h.2.1 h1
  ·omega
  ·exact h.2.2 h1
 ·rcases hx.onew l ho with h1 |h1
  ·omega
  ·exact h.2.2 h1
structure AS where
 n0:Nat
 hid:List Nat
 sl:List AV
 tm:List (Nat×AV)
 h:List AO
structure Tok where
 l:Nat
 r:Loop
 ce:Ctx
def TokOk (c:Ctx)(t:Tok):Prop:=Kept c t.l (.loop t.r)∧Ext t.ce c
theorem TokOk.ext {c c':Ctx}{t:Tok}(h:TokOk c t)(hx:Ext c c'):TokOk c' t:=⟨h.1.ext (hx.toB 0),h.2.trans hx⟩
theorem TokOk.extB {m:Nat}{c c':Ctx}{t:Tok}(h:TokOk c t)(hm:t.ce.H.length≤m)(hx:ExtB m c c'):TokOk c' t:=⟨h.1.ext hx,((h.2.toB m).trans hx).toExt hm⟩
def XA:List (Nat×AV)→Nat→AV
 | [],_=>.any
 | (i,v) :: l,j=>if j=i then v else XA l j
def AS.get (s:AS)(i:Nat):AV:=if i<s.n0 then s.sl.getD i .any else XA s.tm i
def AS.put (s:AS)(i:Nat)(v:AV):AS:=if i<s.n0 then { s with sl:=s.sl.set i v } else { s with tm:=(i,v) :: s.tm }
def AS.putO (s:AS)(d:Option Nat)(v:AV):AS:=match d with |some i=>s.put i v |none=>s
def AS.clr (s:AS):AS:={ s with tm:=s.tm.filter fun p=>s.hid.contains p.1 }
def AS.ev (s:AS):Operand→AV
 | .tmp t=>s.get t
 | .const v=>fK v
 | .global _=>.any
 | .func f=>.fn f []
structure St (N:Nat)(c:Ctx)(a:Act)(s:AS):Prop where
 size:a.tmps.size=N
 defers:a.defers=[]
 slots:∀i,Rep c (a.tmps.getD i undef) (s.get i)
 heap:c.H=s.h
 hrel:HRel c
theorem St.ev {N:Nat}{c:Ctx}{a:Act}{s:AS}(h:St N c a s)(x:Operand):Rep c (a.eval x) (s.ev x):=by
 cases x with
 |tmp t=>exact h.slots t
 |const v=>exact Wl c v
 |global g=>exact .any _
 |func f=>exact .fn f #[] [] rfl (by simp)
@[simp] theorem put_h (s:AS)(i:Nat)(v:AV):(s.put i v).h=s.h:=by unfold AS.put;split <;> rfl
@[simp] theorem putO_h (s:AS)(d:Option Nat)(v:AV):(s.putO d v).h=s.h:=by cases d <;> simp[AS.putO]
theorem VN (s:AS)(i j:Nat)(v:AV):(s.put i v).get j=v∧j=i∨(s.put i v).get j=.any∨(j≠i∧(s.put i v).get j=s.get j):=by
 unfold AS.put AS.get;by_cases hi:i<s.n0
 ·simp only[hi,if_true]
  by_cases hj:j<s.n0
  ·simp only[hj,if_true,EL]
   by_cases hij:i=j∧j<s.sl.length
   ·rw[if_pos hij];exact .inl ⟨rfl,hij.1.symm⟩
   ·rw[if_neg hij]
    by_cases he:j=i
    ·subst he
     right;left;have:¬j<s.sl.length:=fun h=>hij ⟨rfl,h⟩
     simp[List.getD_eq_getElem?_getD,List.getElem?_eq_none (Nat.le_of_not_lt this)]
    ·exact .inr (.inr ⟨he,by first |rfl |trivial⟩)
  ·simp only[hj,if_false]
   exact .inr (.inr ⟨by omega,by first |rfl |trivial⟩)
 ·simp only[hi,if_false]
  by_cases hj:j<s.n0
  ·simp only[hj,if_true]
   exact .inr (.inr ⟨by omega,by first |rfl |trivial⟩)
  ·simp only[hj,if_false,XA]
   by_cases he:j=i
   ·rw[if_pos he];exact .inl ⟨rfl,he⟩
   ·rw[if_neg he];exact .inr (.inr ⟨he,by first |rfl |trivial⟩)
theorem St.putO {N:Nat}{c c':Ctx}{a:Act}{s:AS}(h:St N c a s)(hx:Ext c c')(hr:HRel c'){d:Option Nat}{x:Value}{v:AV}(hv:Rep c' x v)(hd:∀i,d=some i→i<N) :
  St N c' (a.put d x) (({ s with h:=c'.H }:AS).putO d v):=by
 cases d with
 |none=>exact⟨h.size,h.defers,fun i=>hx.rep h.hrel (h.slots i),rfl,hr⟩
 |some i =>
  refine⟨by simp[Act.put,h.size],h.defers,fun j=>?_,by simp[AS.putO],hr⟩;simp only[AS.putO,Act.put];have hi:=hd i rfl;rw[Ny];rcases VN ({ s with h:=c'.H }:AS) i j v with⟨h1,h2⟩ |h1 | ⟨h1,h2⟩
  ·rw[h1,if_pos ⟨h2.symm,by rw[h2,h.size];exact hi⟩];exact hv
  ·rw[h1];exact .any _
  ·rw[h2,if_neg (fun e=>h1 e.1.symm)];exact hx.rep h.hrel (h.slots j)
theorem Ed (p:Nat→Bool):∀ (l:List (Nat×AV)) (j:Nat),XA (l.filter fun x=>p x.1) j=XA l j∨XA (l.filter fun x=>p x.1) j=.any
 | [],_=>.inl rfl
 | (i,v) :: l,j=>by
  simp only[List.filter_cons];by_cases hp:p i=true
  ·simp only[hp,if_true,XA]
   by_cases he:j=i
   ·simp[he]
   ·simp only[he,if_false];exact Ed p l j
  ·simp only[hp,XA]
   by_cases he:j=i
   ·right
    subst he;have:∀l:List (Nat×AV),XA (l.filter fun x=>p x.1) j=.any:=by
     intro l
     induction l with
     |nil=>rfl
     |cons x l ih =>
      obtain⟨i',v'⟩:=x;simp only[List.filter_cons];by_cases hp':p i'=true
      ·simp only[hp',if_true,XA]
       have:j≠i':=fun e=>hp (e▸hp')
       simp only[this,if_false];exact ih
      ·simp only[hp'];exact ih
    exact this l
   ·simp only[he,if_false];exact Ed p l j
theorem St.clr {N:Nat}{c:Ctx}{a:Act}{s:AS}(h:St N c a s):St N c a s.clr:=by
 refine⟨h.size,h.defers,fun i=>?_,h.heap,h.hrel⟩;have h1:=h.slots i;unfold AS.get AS.clr at *;by_cases hi:i<s.n0
 ·simpa [hi]using h1
 ·simp only[hi,if_false]at h1 ⊢
  rcases Ed (fun i=>s.hid.contains i) s.tm i with e |e
  ·rw[e];exact h1
  ·rw[e];exact .any _
def MQ (c:Ctx):Nat→Prop:=fun b=>c.S b∨ZK c b
def Settled (a:AV):Prop:=∀c v,Rep c v a→Rep (.bare c.w c.S) v a
def Zs (H:List AO)(a a':AV):Prop:=∀c v,c.H=H→HRel c→Rep c v a→Rep (.bare c.w (MQ c)) v a'
def lF (a:AV):Prop:=∀c c' v,Rep c v a→Rep c' v a
theorem Settled.sees {a:AV}(h:Settled a)(H:List AO):Zs H a a:=fun c v _ _ hv =>
 (h c v hv).ext (fun _ hb=>.inl hb) (fun _ _=>rfl) (HLe.refl _)
theorem Jo:Settled .any:=fun _ v _=>.any v
theorem X5 (b:Bool):Settled (.bool b):=fun _ _ h=>by cases h;exact .bool _
theorem Jp (k:IntKind)(n:Int):Settled (.int k n):=fun _ _ h=>by cases h;exact .int _ _
theorem Kq:Settled .nil:=fun _ _ h=>by cases h;exact .nil
theorem J3 {n m:Nat}{f:Nat→AV}{t:Bool}(hf:∀j,j<m→Settled (f j)):Settled (.sl n m f t):=fun c v h=>by
 cases h with
 |sl b base _ _ cap _ _ us hS hc hr hn ht=>exact .sl b base n m cap f t us hS hc (fun j hj=>hf j hj c _ (hr j hj)) hn ht
 |slz a cap _ _ ht=>exact .slz _ _ _ _ ht
theorem XI {m off:Nat}{f:Nat→AV}(hf:∀j,j<m→Settled (f j)):Settled (.ptr m f off):=fun c v h=>by
 cases h with
 |ptr b base _ _ _ us hS hc hr=>exact .ptr b base m off f us hS hc (fun j hj=>hf j hj c _ (hr j hj))
theorem Qr {l:List AV}(hl:∀a∈l,Settled a):Settled (.agg l):=fun c v h=>by
 cases h with
 |agg vs _ hs hr=>exact .agg vs l hs fun j hj=>hl _ (by rw[List.getD_eq_getElem?_getD,List.getElem?_eq_getElem hj];exact List.getElem_mem _) c _ (hr j hj)
theorem Z6 {l:List AV}(hl:∀a∈l,Settled a):Settled (.tup l):=fun c v h=>by
 cases h with
 |tup vs _ hs hr=>exact .tup vs l hs fun j hj=>hl _ (by rw[List.getD_eq_getElem?_getD,List.getElem?_eq_getElem hj];exact List.getElem_mem _) c _ (hr j hj)
theorem Jg {g:FuncId}{l:List AV}(hl:∀a∈l,Settled a):Settled (.fn g l):=fun c v h=>by
 cases h with
 |fn _ vs _ hs hr=>exact .fn g vs l hs fun j hj=>hl _ (by rw[List.getD_eq_getElem?_getD,List.getElem?_eq_getElem hj];exact List.getElem_mem _) c _ (hr j hj)
theorem SB {g:FuncId}{a:AV}(ha:Settled a):Settled (.mfn g a):=fun c v h=>by
 cases h with
 |mfn _ v _ hv=>exact .mfn g v a (ha c v hv)
theorem Z2 {H:List AO}{id ver es off n m M:Nat}{f g:Nat→AV}(ho:H[id]?=some (.row ver m f)∨H[id]?=some (.con ver m f)) (hle:off+M≤m) (hM:n=0→M=0) (hf:∀j,j<M→Zs H (f (off+j)) (g j)) :
  Zs H (.osl id ver es off n) (.sl n M g false):=by
 rintro c v rfl hr h;have hinf:inf c.H id=some ver:=by rcases ho with h |h <;> simp[inf,h,AO.info]
 have hns:¬stale c.H id ver:=by
  rintro(⟨v',hi,hlt⟩ |hd)
  ·rw[hinf]at hi;cases hi;omega
  ·simp[inf,hd,AO.info]at hinf
 have hn0:n=0→Rep (.bare c.w (MQ c)) v (.sl n M g false):=by
  intro hn;subst hn;rw[hM rfl];cases h with
  |osl _ _ _ _ _ cap b sz hi hg hn hcap hmx=>exact .slz _ _ _ _ (by simp)
  |oslz _ _ _ _ a hi=>exact .slz _ _ _ _ (by simp)
  |oslOld _ _ _ _ _ a cap hn hs=>exact absurd hs hns
  |oslzOld _ _ _ _ a hs=>exact absurd hs hns
 cases h with
 |osl _ _ _ _ _ cap b sz hi hg hn hcap hmx =>
  have key:∀cs el fr,c.w.heap[b]?=some (.cells cs el fr)→m≤cs.size→(∀j,j<m→Rep c (cs.getD j undef) (f j))→MQ c b→Rep (.bare c.w (MQ c)) (.slice (some ⟨b,off,none⟩) n cap) (.sl n M g false):=by
   intro cs el fr hh hm hrr hS;refine .sl b off n M cap g false (fun j=>cs.getD (off+j) undef) hS (fun j hj=>?_) (fun j hj=>hf j hj c _ rfl hr (hrr _ (by omega))) hn (by simp);have hlt:off+j<cs.size:=by omega
   show c.w.cell? _=_;rw[cell_of_row c.w b _ cs el fr hh];simp[hlt,Array.getD]
  rcases ho with ho |ho
  ·rcases hr.row id ver m f ho with⟨h1,_⟩ | ⟨b',sz',cs,el,h1,h2,h3,h4,h5,h6⟩
   ·rw[h1]at hg;cases hg
   ·rw[h1]at hg;cases hg
    exact key cs el _ h2 (by omega) h6 (.inr ⟨id,_,sz,ho,rfl,h1⟩)
  ·rcases hr.con id ver m f ho with⟨h1,_⟩ | ⟨b',sz',cs,el,fr,h1,h2,h3,h4,h5,h6⟩
   ·rw[h1]at hg;cases hg
   ·rw[h1]at hg;cases hg
    exact key cs el _ h2 (by omega) h6 (.inl h5)
 |oslz _ _ _ _ a hi=>exact hn0 rfl
 |oslOld _ _ _ _ _ a cap hn hs=>exact absurd hs hns
 |oslzOld _ _ _ _ a hs=>exact absurd hs hns
theorem jT {H:List AO}{id ver off m:Nat}{f g:Nat→AV}(ho:H[id]?=some (.row ver m f)∨H[id]?=some (.con ver m f)) (hm:0<m) (hf:∀j,j<m→Zs H (f j) (g j)) :
  Zs H (.ref id ver off) (.ptr m g off):=by
 rintro c v rfl hr h;have hinf:inf c.H id=some ver:=by rcases ho with h |h <;> simp[inf,h,AO.info]
 have hns:¬stale c.H id ver:=by
  rintro(⟨v',hi,hlt⟩ |hd)
  ·rw[hinf]at hi;cases hi;omega
  ·simp[inf,hd,AO.info]at hinf
 cases h with
 |ref _ _ _ b sz hi hg =>
  have key:∀cs el fr,c.w.heap[b]?=some (.cells cs el fr)→m≤cs.size→(∀j,j<m→Rep c (cs.getD j undef) (f j))→MQ c b→Rep (.bare c.w (MQ c)) (.pointer (some ⟨b,off,none⟩)) (.ptr m g off):=by
   intro cs el fr hh hmm hrr hS;have:=Rep.ptr (c:=.bare c.w (MQ c)) b 0 m off g (fun j=>cs.getD j undef) hS (fun j hj=>Ze hh hmm j hj) (fun j hj=>hf j hj c _ rfl hr (hrr _ hj));rwa[Nat.zero_add]at this
  rcases ho with ho |ho
  ·rcases hr.row id ver m f ho with⟨h1,h2⟩ | ⟨b',sz',cs,el,h1,h2,h3,h4,h5,h6⟩
   ·omega
   ·rw[h1]at hg;cases hg
    exact key cs el _ h2 (by omega) h6 (.inr ⟨id,_,sz,ho,rfl,h1⟩)
  ·rcases hr.con id ver m f ho with⟨h1,h2⟩ | ⟨b',sz',cs,el,fr,h1,h2,h3,h4,h5,h6⟩
   ·omega
   ·rw[h1]at hg;cases hg
    exact key cs el _ h2 (by omega) h6 (.inl h5)
 |refOld _ _ _ a hs=>exact absurd hs hns
def SeesL (H:List AO):List AV→List AV→Prop
 | [],[]=>True
 |a :: l,a' :: l'=>Zs H a a'∧SeesL H l l'
 |_,_=>False
theorem SeesL.spec {H:List AO}:∀ {l l':List AV},SeesL H l l'→l.length=l'.length∧∀j,j<l.length→Zs H (l.getD j .any) (l'.getD j .any)
 | [],[],_=>⟨rfl,by simp⟩
 |a :: l,a' :: l',h=>by
  obtain⟨h1,h2⟩:=h;obtain⟨h3,h4⟩:=SeesL.spec h2;refine⟨by simp[h3],fun j hj=>?_⟩;cases j with
  |zero=>simpa using h1
  |succ j=>simpa using h4 j (by simpa using hj)
theorem Eo {H:List AO}{l l':List AV}(h:SeesL H l l'):Zs H (.agg l) (.agg l'):=by
 rintro c v rfl hr hv;obtain⟨h1,h2⟩:=h.spec;cases hv with
 |agg vs _ hs hrr=>exact .agg vs l' (by omega) fun j hj=>h2 j (by omega) c _ rfl hr (hrr j (by omega))
theorem CX {H:List AO}{l l':List AV}(h:SeesL H l l'):Zs H (.tup l) (.tup l'):=by
 rintro c v rfl hr hv;obtain⟨h1,h2⟩:=h.spec;cases hv with
 |tup vs _ hs hrr=>exact .tup vs l' (by omega) fun j hj=>h2 j (by omega) c _ rfl hr (hrr j (by omega))
theorem oP {H:List AO}{g:FuncId}{l l':List AV}(h:SeesL H l l'):Zs H (.fn g l) (.fn g l'):=by
 rintro c v rfl hr hv;obtain⟨h1,h2⟩:=h.spec;cases hv with
 |fn _ vs _ hs hrr=>exact .fn g vs l' (by omega) fun j hj=>h2 j (by omega) c _ rfl hr (hrr j (by omega))
theorem YQ (b:Bool):lF (.bool b):=fun _ _ _ h=>by cases h;exact .bool _
theorem gx (k:IntKind)(n:Int):lF (.int k n):=fun _ _ _ h=>by cases h;exact .int _ _
variable {tok:List Tok}
def BL (P:Program)(f:FuncId):Prop:=∀vs w,(callFunc f vs).run P w=.ok (.enter f vs) w
def PureCall (P:Program)(f:FuncId)(args:List AV)(r:AV):Prop :=
 BL P f∧∀ (w:World) (S:Nat→Prop) (vs:Array Value),(∀b,S b→b<w.heap.size)→RepL (.bare w S) vs args →
  Calls P f vs w fun e w'=>∃v S',e=.returned v∧Rep (.bare w' S') v r∧(∀b,S' b→b<w'.heap.size)∧Ext (.bare w S) (.bare w' S')
def HCall (P:Program)(f:FuncId)(args:List AV)(H:List AO)(r:AV)(H':List AO):Prop :=
 BL P f∧∀ (c:Ctx) (vs:Array Value),c.H=H→HRel c→RepL c vs args →
  Calls P f vs c.w fun e w'=>∃v S' γ',e=.returned v∧Rep ⟨w',S',γ',H'⟩ v r∧HRel ⟨w',S',γ',H'⟩∧Ext c ⟨w',S',γ',H'⟩
def de (h h2:List AO):Prop:=∀id:Nat,h[id]?≠some .unborn→h2[id]?=h[id]?
def JP (h h':List AO):Prop:=∀ (id v n:Nat) (f:Nat→AV),h[id]?=some (.con v n f)↔h'[id]?=some (.con v n f)
def Weak (a b:AV):Prop:=∀ (c:Ctx) (v:Value),Rep c v a→Rep c v b
def WeakL:List AV→List AV→Prop
 | [],[]=>True
 |a :: l,b :: m=>Weak a b∧WeakL l m
 |_,_=>False
theorem Weak.rfl' (a:AV):Weak a a:=fun _ _ h=>h
theorem V9 (a:AV):Weak a a.loose:=fun _ _ h=>h.loose
theorem Ii:∀l:List AV,WeakL l (l.map AV.loose)
 | []=>trivial
 |a :: l=>⟨V9 a,Ii l⟩
theorem X2:∀l:List AV,WeakL l l
 | []=>trivial
 |a :: l=>⟨Weak.rfl' a,X2 l⟩
theorem WeakL.spec {c:Ctx}:∀ {l m:List AV},WeakL l m→l.length=m.length∧∀j,j<l.length→∀v,Rep c v (l.getD j .any)→Rep c v (m.getD j .any)
 | [],[],_=>⟨rfl,fun j hj=>absurd hj (Nat.not_lt_zero j)⟩
 |a :: l,b :: m,h=>by
  obtain⟨h1,h2⟩:=WeakL.spec (c:=c) h.2;refine⟨by simp[h1],fun j hj v hv=>?_⟩;cases j with
  |zero=>exact h.1 c v (by simpa using hv)
  |succ j=>simpa using h2 j (by simpa using hj) v (by simpa using hv)
 | [],_ :: _,h=>h.elim
 |_ :: _,[],h=>h.elim
theorem RepL.weak {c:Ctx}{vs:Array Value}{l m:List AV}(h:RepL c vs l)(hw:WeakL l m):RepL c vs m :=
 ⟨h.1.trans (hw.spec (c:=c)).1,fun j hj=>(hw.spec (c:=c)).2 j (by rw[(hw.spec (c:=c)).1];exact hj) _ (h.2 j (by rw[(hw.spec (c:=c)).1];exact hj))⟩
def YCall (P:Program)(t:Tok)(args:List AV)(H:List AO)(v:AV)(H':List AO):Prop :=
 ∀ (c:Ctx) (vs:Array Value),c.H=H→HRel c→TokOk c t→RepL c vs args→∃f tmps assign body,(Instr.yield t.l vs).run P c.w=.ok (.round t.l f tmps assign body) c.w ∧
  RoundIn Fence.wide 0 P t.l f tmps assign body c.w fun e w'=>∃x S' γ',e=.returned x∧Rep ⟨w',S',γ',H'⟩ x v∧HRel ⟨w',S',γ',H'⟩∧Ext c ⟨w',S',γ',H'⟩
def AV.callee:AV→List AV→Option ((FuncId ⊕ Nat)×List AV)
 | .fn g caps,args=>some (.inl g,args ++ caps)
 | .mfn g a,args=>some (.inl g,a :: args)
 | .yld l,args=>some (.inr l,args)
 |_,_=>none
def pR (P:Program):FuncId ⊕ Nat→List AV→AV→Prop
 | .inl g,args,r=>PureCall P g args r
 | .inr _,_,_=>False
def r5 (P:Program)(tok:List Tok):FuncId ⊕ Nat→List AV→List AO→AV→List AO→Prop
 | .inl g,args,H,v,H'=>HCall P g args H v H'
 | .inr l,args,H,v,H'=>∃t,t∈tok∧t.l=l∧YCall P t args H v H'
def Og (P:Program)(tok:List Tok)(strict hcall:Bool)(fv:AV)(args:List AV)(h:List AO)(v:AV)(h':List AO):Prop :=
  ∃g full,fv.callee args=some (g,full) ∧
    ((∃as',WeakL full as'∧pR P g as' v∧(∀a∈as',Settled a)∧h'=h) ∨
     (strict=false∧∃args',SeesL h (full.map AV.loose) args'∧pR P g args' v∧lF v∧h'=h) ∨
     (hcall=true∧∃as',WeakL full as'∧∃E:List AO→List AO,(∀h2,de h h2→r5 P tok g as' h2 v (E h2))∧E h=h'∧JP h h' ∧
       (∀ (h2:List AO) (id:Nat) (ob:AO),de h h2→h[id]?=some .unborn→E (h2.set id ob)=(E h2).set id ob)∧∀id:Nat,h[id]?=some .unborn→h'[id]?=some .unborn))
theorem El {c:Ctx}{vs us:Array Value}{l m:List AV}(h1:RepL c vs l)(h2:RepL c us m):RepL c (vs ++ us) (l ++ m):=by
 refine⟨by simp[h1.1,h2.1],fun j hj=>?_⟩;simp only[Array.getD_eq_getD_getElem?,List.getD_eq_getElem?_getD];by_cases hjl:j<l.length
 ·rw[Array.getElem?_append_left (by rw[h1.1];exact hjl),List.getElem?_append_left hjl]
  have:=h1.2 j hjl
  simpa [Array.getD_eq_getD_getElem?,List.getD_eq_getElem?_getD]using this
 ·rw[Array.getElem?_append_right (by rw[h1.1];omega),List.getElem?_append_right (by omega),h1.1]
  have:=h2.2 (j-l.length) (by simp at hj;omega)
  simpa [Array.getD_eq_getD_getElem?,List.getD_eq_getElem?_getD]using this
theorem LB {c:Ctx}(hr:HRel c){w':World}{S S':Nat→Prop}(hx:Ext (.bare c.w S) (.bare w' S')) (hb:∀b,S' b→b<w'.heap.size) (T:Nat→Prop)
  (hT:∀b,T b→S' b) (hT2:∀b,c.S b→T b) (hT3:∀b,T b→c.S b∨c.w.heap.size≤b):HRel ⟨w',T,c.γ,c.H⟩∧Ext c ⟨w',T,c.γ,c.H⟩:=by
 have hsame:∀b,b<c.w.heap.size→w'.heap[b]?=c.w.heap[b]?:=fun b hb=>hx.same b hb CR
 have hext:Ext c ⟨w',T,c.γ,c.H⟩:=⟨HLe.refl c,hT2,fun b h=>(hT3 b h).imp id .inl,fun b h=>.inr h,fun b hb _=>hsame b hb,hx.size,hx.os,hx.tape,hx.output⟩
 refine⟨⟨?_,?_,?_,hr.inj,fun b h=>hb b (hT b h)⟩,hext⟩
 ·intro id v n f ho
  rcases hr.row id v n f ho with h | ⟨b,sz,cs,el,h1,h2,h3,h4,h5,h6⟩
  ·exact .inl h
  ·have hlt:=(Array.getElem?_eq_some_iff.1 h2).1
   exact .inr ⟨b,sz,cs,el,h1,(hsame b hlt).trans h2,h3,h4,fun ht=>by rcases hT3 b ht with h |h;exact h5 h;omega,fun j hj=>hext.rep hr (h6 j hj)⟩
 ·intro id v n f ho
  rcases hr.con id v n f ho with h | ⟨b,sz,cs,el,fr,h1,h2,h3,h4,h5,h6⟩
  ·exact .inl h
  ·have hlt:=(Array.getElem?_eq_some_iff.1 h2).1
   exact .inr ⟨b,sz,cs,el,fr,h1,(hsame b hlt).trans h2,h3,h4,hT2 b h5,fun j hj=>hext.rep hr (h6 j hj)⟩
 ·intro id k g ho
  obtain⟨b,sz,es,cl,h1,h2,h3,h4⟩:=hr.map id k g ho;have hlt:=(Array.getElem?_eq_some_iff.1 h2).1;exact⟨b,sz,es,cl,h1,(hsame b hlt).trans h2,fun ht=>by rcases hT3 b ht with h |h;exact h3 h;omega,h4.ext fun v a hv=>hext.rep hr hv⟩
theorem I8 {w:World}{S:Nat→Prop}{v:Value}{a:AV}(h:Rep (.bare w S) v a) (γ:Nat→Option (Nat×Nat)) (H:List AO):Rep ⟨w,S,γ,H⟩ v a :=
 h.ext (fun _ h=>h) (fun _ _=>rfl) (fun id o ho=>by simp[Ctx.bare]at ho)
def cI (P:Program)(c:Ctx)(run:Result Next)(v:AV)(h':List AO):Prop :=
 (∃g vs,run=.ok (.enter g vs) c.w∧Calls P g vs c.w fun e w'=>∃x S' γ',e=.returned x∧Rep ⟨w',S',γ',h'⟩ x v∧HRel ⟨w',S',γ',h'⟩∧Ext c ⟨w',S',γ',h'⟩) ∨
 (∃l f tmps assign body,run=.ok (.round l f tmps assign body) c.w∧RoundIn Fence.wide 0 P l f tmps assign body c.w fun e w'=>∃x S' γ',e=.returned x∧Rep ⟨w',S',γ',h'⟩ x v∧HRel ⟨w',S',γ',h'⟩∧Ext c ⟨w',S',γ',h'⟩)
theorem MU {P:Program}{c:Ctx}(hr:HRel c)(htok:∀ p∈tok,TokOk c p){strict hcall:Bool}{fv:AV}{x:Value}{args:Array Value}{as:List AV}(hf:Rep c x fv)(ha:RepL c args as){v:AV}{h':List AO}
  (h:Og P tok strict hcall fv as c.H v h') (ty:TypeId) {o:Operand} {ρ:Operand→Value} (ho:ρ o=x) (os:Array Operand) (hos:os.map ρ=args) (ts:Array TypeId) :
  cI P c ((do let d ←resolve ρ { callee:=.value o,args:=os,argTypes:=ts } ty;invoke d.target d.args:Sem Next).run P c.w) v h':=by
 obtain⟨g,full,hcal,h⟩:=h;have key:∀ (g0:FuncId) (vs:Array Value),g=.inl g0→RepL c vs full→(∀ (he:BL P g0),(do let d ←resolve ρ { callee:=.value o,args:=os,argTypes:=ts } ty;invoke d.target d.args:Sem Next).run P c.w=.ok (.enter g0 vs) c.w) →
   cI P c ((do let d ←resolve ρ { callee:=.value o,args:=os,argTypes:=ts } ty;invoke d.target d.args:Sem Next).run P c.w) v h':=by
  rintro g0 vs rfl hfull hrun;left;have hall:RepL c vs (full.map AV.loose):=hfull.loose;rcases h with⟨as',hweak,⟨he,hc⟩,hs,rfl⟩ | ⟨_,as',hsee,⟨he,hc⟩,hflat,rfl⟩ | ⟨_,as',hweak,E,hE,rfl,_⟩
  ·have hall:=hfull.weak hweak
   refine⟨g0,_,hrun he,(hc c.w c.S vs hr.bound ⟨hall.1,fun j hj=>hs _ (by rw[List.getD_eq_getElem?_getD,List.getElem?_eq_getElem hj];exact List.getElem_mem _) c _ (hall.2 j hj)⟩).mono ?_⟩;rintro e w' ⟨x,S',rfl,hx,hb,hext⟩;obtain⟨g1,g2⟩:=LB hr hext hb S' (fun _ h=>h) hext.smono (fun b h=>by
    rcases hext.snew b h with h |h |h
    ·exact .inl h
    ·exact .inr h
    ·exact absurd h CR)
   exact⟨x,S',c.γ,rfl,I8 hx _ _,g1,g2⟩
  ·obtain⟨hlen,hsp⟩:=hsee.spec
   have hb0:∀b,MQ c b→b<c.w.heap.size:=fun b h=>h.elim (hr.bound b) hr.ownLt
   refine⟨g0,_,hrun he,(hc c.w (MQ c) vs hb0 ⟨by rw[hall.1,hlen],fun j hj=>hsp j (by omega) c _ rfl hr (hall.2 j (by omega))⟩).mono ?_⟩;rintro e w' ⟨x,S',rfl,hx,hb,hext⟩;obtain⟨g1,g2⟩:=LB hr hext hb c.S (fun b h=>hext.smono b (.inl h)) (fun _ h=>h) (fun b h=>.inl h);exact⟨x,c.S,c.γ,rfl,hflat _ _ _ hx,g1,g2⟩
  ·have hall:=hfull.weak hweak
   obtain⟨he,hc⟩:=hE c.H (fun _ _=>rfl);refine⟨g0,_,hrun he,(hc c vs rfl hr hall).mono ?_⟩;rintro e w' ⟨x,S',γ',rfl,h1,h2,h3⟩;exact⟨x,S',γ',rfl,h1,h2,h3⟩
 unfold AV.callee at hcal
 split at hcal
 ·rename_i g0 caps
  cases hcal;cases hf;rename_i vs hl hrr;exact key g0 (args ++ vs) rfl (El ha ⟨hl,hrr⟩) fun he=>by simp[resolve,Deferred.ofValue,ho,hos,invoke,he (args ++ vs) c.w]
 ·rename_i g0 a
  cases hcal;cases hf;rename_i v0 hv0;have h1:RepL c #[v0] [a]:=⟨rfl,fun j hj=>by
   obtain rfl:j=0:=by simpa using hj
   exact hv0⟩
  exact key g0 (#[v0] ++ args) rfl (El h1 ha) fun he=>by simp[resolve,Deferred.ofValue,ho,hos,invoke,he (#[v0] ++ args) c.w]
 ·rename_i l
  cases hcal;cases hf;rcases h with⟨as',_,hp,_⟩ | ⟨_,as',_,hp,_⟩ | ⟨_,as',hweak,E,hE,rfl,_⟩
  ·exact hp.elim
  ·exact hp.elim
  ·right
   obtain⟨t,hmem,rfl,hy⟩:=hE c.H (fun _ _=>rfl);obtain⟨f,tmps,assign,body,h1,h2⟩:=hy c args rfl hr (htok _ hmem) (ha.weak hweak);refine⟨t.l,f,tmps,assign,body,?_,h2⟩;simp[resolve,Deferred.ofValue,ho,hos,invoke,h1]
 ·cases hcal
def gval (all:Array Oper)(s:AS)(o:Oper):Option Bool :=
 match o.guard with
 |none=>some true
 |some (j,want) =>
  match (all[j]?).bind (·.dst)with
  |some d=>match s.get d with
   | .bool b=>some (b == want)
   | .tup []=>some false
   |_=>none
  |none=>none
def H5 (P:Program)(tok:List Tok)(strict hcall:Bool)(op:Op)(ρ:Operand→AV)(h:List AO)(v:AV)(h':List AO):Prop :=
 ∃f args ts,op=.call { callee:=.value f,args:=args,argTypes:=ts }∧Og P tok strict hcall (ρ f) (args.toList.map ρ) h v h'
def r7 (P:Program)(tok:List Tok)(strict hcall:Bool)(nid:Option Nat)(o:Oper)(s s1:AS):Prop :=
 (∀id,nid=some id→s.h[id]?=some .unborn)∧∃v h',(QU P strict nid o.op s.ev s.h=some (v,h')∨H5 P tok strict hcall o.op s.ev s.h v h')∧s1=({ s with h:=h' }:AS).putO o.dst v
def GStep (P:Program)(tok:List Tok)(strict:Nat→Bool)(hcall:Bool)(nid:Nat→Option Nat)(all:Array Oper)(i:Nat)(s s1:AS):Prop :=
 ∃o,all[i]?=some o∧((gval all s o=some true∧r7 P tok (strict i) hcall (nid i) o s s1)∨(gval all s o=some false∧s1=s.putO o.dst XO))
theorem FT {all:Array Oper}{N:Nat}{c:Ctx}{a:Act}{s:AS}(hst:St N c a s){o:Oper}{b:Bool}(hN:∀ o∈all.toList,∀ i,o.dst=some i→i<N)(h:gval all s o=some b) :
  Region.wanted o (yielded all a.tmps)=b:=by
 unfold gval at h;unfold Region.wanted;cases hg:o.guard with
 |none=>simp[hg]at h;simp[h]
 |some q =>
  obtain⟨j,want⟩:=q;simp only[hg]at h;cases hd:(all[j]?).bind (·.dst)with
  |none=>simp[hd]at h
  |some d =>
   simp only[hd]at h;have hdN:d<N:=by
    cases hoj:all[j]? with
    |none=>simp[hoj]at hd
    |some oj =>
     simp[hoj]at hd;exact hN oj (by simpa using Array.mem_of_getElem? hoj) d hd
   have hslot:=hst.slots d;have hget:a.tmps[d]?=some (a.tmps.getD d undef):=by
    have:d<a.tmps.size:=by rw[hst.size];exact hdN
    simp[Array.getD,this]
   cases hv:s.get d with
   |bool b' =>
    rw[hv]at hslot h;simp at h;generalize a.tmps.getD d undef=q at hslot hget;cases hslot;simp[yielded,hd,hget,←h]
   |tup l =>
    rw[hv]at hslot h;cases l with
    |nil =>
     simp at h;generalize a.tmps.getD d undef=q at hslot hget;cases hslot;simp[yielded,hd,hget,←h]
    |cons _ _=>simp at h
   |_=>rw[hv]at h;simp at h
def Zv (r:Option Nat):Fence:={ Fence.wide with round:=r }
theorem MY (r:Option Nat)(P:Program):Machine.fenced P (Zv r)=Machine.fenced P Fence.wide:=rfl
theorem Ev {r:Option Nat}{P:Program}{m m':Machine}:StepsIn (Machine.fenced P (Zv r)) P m m'↔Steps P m m':=by rw[MY];exact stepsIn_wide
theorem I9 (r:Option Nat)(n:Nat):(Zv r).room n:=room_wide n
theorem Li {r:Option Nat}{n:Nat}{P:Program}{f:FuncId}{args:Array Value}{w:World}{R:Ending→World→Prop}(h:Calls P f args w R):CallsIn (Zv r) n P f args w R :=
 (callsIn_wide (n:=n)).2 h
theorem C1 (a:Act)(ds:List Deferred)(d:Option Nat)(v:Value):({ a with defers:=ds }:Act).put d v={ a.put d v with defers:=ds }:=by cases d <;> rfl
theorem GStep.sound {P:Program}{strict:Nat→Bool}{hcall:Bool}{nid:Nat→Option Nat}{all:Array Oper}{i:Nat}{s s1:AS}{N:Nat}{c:Ctx}{a:Act}{ro:Option Nat}{ds:List Deferred}(hst:St N c a s)(htok:∀p∈tok,TokOk c p)
  (hN:∀o∈all.toList,∀i,o.dst=some i→i<N) (h:GStep P tok strict hcall nid all i s s1) {K:Act→World→Prop} {Q:Exit→Act→World→Prop}
  (hK:∀a' c',St N c' a' s1→Ext c c'→K { a' with defers:=ds } c'.w):wpOpIn (Zv ro) 0 P all Q i K { a with defers:=ds } c.w:=by
 obtain⟨o,ho,h⟩:=h;have hdN:∀i,o.dst=some i→i<N:=hN o (by simpa using Array.mem_of_getElem? ho);unfold wpOpIn;simp only[ho];have hsame:({ s with h:=c.H }:AS)=s:=by rw[hst.heap]
 rcases h with⟨hg,hnid,v,h',h,rfl⟩ | ⟨hg,rfl⟩
 ·rw[FT hst hN hg]
  simp only[if_true];unfold Oper.wpIn;refine⟨fun _ _=>trivial,?_⟩;rcases h with h | ⟨f,args,ts,hop,h⟩
  ·rw[Oper.semAt_eq _ _ _ (fun q e=>by rw[e]at h;simp[QU]at h)]
   rw[←hst.heap]at h;obtain⟨x,w',S',γ',hrun,h1,h2,h3⟩:=Yf hst.hrel (by rw[hst.heap];exact hnid) (fun x=>hst.ev x) (fun _=>rfl) h;have fin:=hst.putO h3 h2 (d:=o.dst) h1 hdN;rcases hrun with hrun | ⟨hrun,rfl⟩
   ·rw[show(execOp ({ a with defers:=ds }:Act).eval o).run P c.w=_ from hrun,Oper.uponIn_value,C1];exact hK _ ⟨w',S',γ',h'⟩ fin h3
   ·rw[show(execOp ({ a with defers:=ds }:Act).eval o).run P c.w=_ from hrun,Oper.uponIn_skip,C1];exact hK _ ⟨w',S',γ',h'⟩ fin h3
  ·rw[Oper.semAt_eq _ _ _ (fun q e=>by rw[hop]at e;cases e)]
   rw[←hst.heap]at h;have hrl:=Gm (c:=c) (ρv:=a.eval) (ρ:=s.ev) (fun x=>hst.ev x) args;have hex:∀nx,((do let d ←resolve a.eval { callee:=.value f,args:=args,argTypes:=ts } o.type;invoke d.target d.args:Sem Next).run P c.w)=.ok nx c.w→(execOp ({ a with defers:=ds }:Act).eval o).run P c.w=.ok nx c.w:=fun nx hrun=>by
    rw[←hrun];unfold execOp;rw[hop];rfl
   have fin:∀w' x S' γ',Rep ⟨w',S',γ',h'⟩ x v→HRel ⟨w',S',γ',h'⟩→Ext c ⟨w',S',γ',h'⟩→K (({ a with defers:=ds }:Act).put o.dst x) w':=fun w' x S' γ' h1 h2 h3=>by
    have:=hK _ ⟨w',S',γ',h'⟩ (hst.putO h3 h2 (d:=o.dst) h1 hdN) h3;rw[←C1]at this;exact this
   rcases MU hst.hrel htok (hst.ev f) hrl h o.type (o:=f) (ρ:=a.eval) rfl args rfl ts with⟨g,vs,hrun,hcalls⟩ | ⟨l,g,tmps,assign,body,hrun,hround⟩
   ·rw[hex _ hrun,Oper.uponIn_enter]
    refine⟨fun e=>by simp[Zv,Fence.wide]at e,Li (hcalls.mono ?_)⟩;rintro e w' ⟨x,S',γ',rfl,h1,h2,h3⟩;exact fin _ _ _ _ h1 h2 h3
   ·rw[hex _ hrun,Oper.uponIn_round]
    refine⟨fun e=>by simp[Zv,Fence.wide]at e,RoundIn.mono (F:=Zv ro) (R:=fun e w'=>∃x S' γ',e=.returned x∧Rep ⟨w',S',γ',h'⟩ x v∧HRel ⟨w',S',γ',h'⟩∧Ext c ⟨w',S',γ',h'⟩) hround ?_⟩;rintro e w' ⟨x,S',γ',rfl,h1,h2,h3⟩;exact fin _ _ _ _ h1 h2 h3
 ·rw[FT hst hN hg]
  simp only[Bool.false_eq_true,if_false];have:=hst.putO (Ext.refl c) hst.hrel (d:=o.dst) (O1 c) hdN;rw[hsame]at this;have:=hK _ c this (Ext.refl c);rw[←C1]at this;exact⟨fun _ _=>trivial,this⟩
def AExec (P:Program)(tok:List Tok)(strict:Nat→Bool)(hcall:Bool)(nid:Nat→Option Nat)(all:Array Oper):List Nat→AS→AS→Prop
 | [],s,s'=>s'=s
 |i :: l,s,s'=>∃s1,GStep P tok strict hcall nid all i s s1∧AExec P tok strict hcall nid all l s1 s'
theorem AExec.sound {P:Program}{strict:Nat→Bool}{hcall:Bool}{nid:Nat→Option Nat}{all:Array Oper}{N:Nat}{ro:Option Nat}{ds:List Deferred}(hN:∀ o∈all.toList,∀ i,o.dst=some i→i<N){Q:Exit→Act→World→Prop}:∀ (l:List Nat) {s s':AS} {c:Ctx} {a:Act},St N c a s→(∀p∈tok,TokOk c p) →
  AExec P tok strict hcall nid all l s s'→(∀a' c',St N c' a' s'→Ext c c'→Q .normal { a' with defers:=ds } c'.w)→wpOpsIn (Zv ro) 0 P all Q l { a with defers:=ds } c.w
 | [],s,s',c,a,hst,htok,h,hQ=>by
  cases h;exact hQ a c hst (Ext.refl c)
 |i :: l,s,s',c,a,hst,htok,h,hQ=>by
  obtain⟨s1,h1,h2⟩:=h;rw[wpOpsIn_cons];refine h1.sound hst htok hN fun a' c' hst' hx=>?_
  exact AExec.sound hN l hst' (fun p hp=>(htok p hp).ext hx) h2 fun a'' c'' hst'' hx'=>hQ a'' c'' hst'' (hx.trans hx')
variable {tok:List Tok}
def Qx (hcall:Bool):Op→Nat
 | .move _=>0
 | .assign _=>0
 | .pick ..=>0
 | .nilCheck _=>0
 | .binOp ..=>0
 | .unOp ..=>0
 | .convert ..=>0
 | .fieldAddr ..=>0
 | .field ..=>0
 | .indexAddr ..=>0
 | .sliceToArrayPointer ..=>0
 | .index ..=>0
 | .extract ..=>0
 | .slice ..=>0
 | .makeFunc ..=>0
 | .build ..=>0
 | .buildSlice ..=>0
 | .call { callee:=.builtin .len,.. }=>0
 | .call { callee:=.builtin .min,.. }=>0
 | .call { callee:=.builtin .max,.. }=>0
 | .call { callee:=.builtin .cap,.. }=>0
 | .load ..=>1
 | .call { callee:=.value _,.. }=>if hcall then 3 else 1
 | .alloc _=>2
 | .box ..=>2
 | .makeSlice ..=>2
 | .makeMap ..=>2
 |_=>3
def BT:Op→Bool
 | .load ..=>true
 |_=>false
def Qq (P:Program)(tok:List Tok)(strict hcall:Bool)(nid:Option Nat)(op:Op)(ρ:Operand→AV)(h:List AO)(v:AV)(h':List AO):Prop :=
 QU P strict nid op ρ h=some (v,h')∨H5 P tok strict hcall op ρ h v h'
theorem J0 {P:Program}{strict hcall:Bool}{op:Op}{ρ:Operand→AV}{h h':List AO}{v:AV}(hc:H5 P tok strict hcall op ρ h v h'):∃f args ts,op=.call { callee:=.value f,args:=args,argTypes:=ts } :=
 let ⟨f,args,ts,e,_⟩:=hc; ⟨f,args,ts,e⟩
def Ht:Op→Bool
 | .buildSlice ..=>true
 |_=>false
theorem fT {P:Program}{strict hcall:Bool}{nid:Option Nat}{op:Op}{ρ:Operand→AV}{h h':List AO}{v:AV}(hc:Qx hcall op=0)(hb:strict=true→Ht op=false)(he:Qq P tok strict hcall nid op ρ h v h') :
  h'=h∧∀k,Qq P tok strict hcall nid op ρ k v k:=by
 rcases he with he |he
 ·have mapc:∀ {o:Option AV},(o.map fun v=>(v,h))=some (v,h')→h'=h∧∀k:List AO,(o.map fun v=>(v,k))=some (v,k):=by
   intro o ho;cases o with
   |none=>simp at ho
   |some x=>simp at ho;obtain⟨rfl,rfl⟩:=ho;exact⟨rfl,fun k=>rfl⟩
  unfold QU at he
  split at he
  case h_1 x=>cases he;exact⟨rfl,fun k=>.inl rfl⟩
  case h_2 x=>cases he;exact⟨rfl,fun k=>.inl rfl⟩
  case h_3 cc a b =>
   split at he
   ·cases he;rename_i e;exact⟨rfl,fun k=>.inl (by simp[QU,e])⟩
   ·cases he;rename_i e;exact⟨rfl,fun k=>.inl (by simp[QU,e])⟩
   ·cases he
  case h_4=>simp[Qx]at hc
  case h_5=>simp[Qx]at hc
  case h_6=>obtain⟨h1,h2⟩:=mapc he;exact⟨h1,fun k=>.inl (h2 k)⟩
  case h_7 =>
   cases strict with
   |true=>have:=hb rfl;simp[Ht]at this
   |false =>
    obtain⟨h1,h2⟩:=mapc he;exact⟨h1,fun k=>.inl (h2 k)⟩
  case h_8=>simp[Qx]at hc
  case h_9=>simp[Qx]at hc
  case h_10 x =>
   obtain⟨h1,h2⟩:=Xg he;cases h2;exact⟨rfl,fun k=>.inl (by simp[QU,Q4,h1])⟩
  case h_11=>obtain⟨h1,h2⟩:=mapc he;exact⟨h1,fun k=>.inl (h2 k)⟩
  case h_12=>obtain⟨h1,h2⟩:=mapc he;exact⟨h1,fun k=>.inl (h2 k)⟩
  case h_13=>obtain⟨h1,h2⟩:=mapc he;exact⟨h1,fun k=>.inl (h2 k)⟩
  case h_14 f first caps=>obtain⟨h1,h2⟩:=mapc he;exact⟨h1,fun k=>.inl (h2 k)⟩
  case h_15=>simp[Qx]at hc
  case h_16=>simp[Qx]at hc
  case h_17 t x lo hi mx =>
   obtain⟨h0,he⟩:=Xg he;obtain⟨h1,h2⟩:=mapc he;exact⟨h1,fun k=>.inl (by unfold QU;simp only;rw[←h2 k];unfold Q4;rw[if_pos h0])⟩
  case h_18=>obtain⟨h1,h2⟩:=mapc he;exact⟨h1,fun k=>.inl (h2 k)⟩
  case h_19=>obtain⟨h1,h2⟩:=mapc he;exact⟨h1,fun k=>.inl (h2 k)⟩
  case h_20=>obtain⟨h1,h2⟩:=mapc he;exact⟨h1,fun k=>.inl (h2 k)⟩
  case h_21=>obtain⟨h1,h2⟩:=mapc he;exact⟨h1,fun k=>.inl (h2 k)⟩
  case h_22=>obtain⟨h1,h2⟩:=mapc he;exact⟨h1,fun k=>.inl (h2 k)⟩
  case h_23=>simp[Qx]at hc
  case h_24=>simp[Qx]at hc
  case h_25=>simp[Qx]at hc
  case h_26 x i =>
   split at he
   ·rename_i l e
    obtain⟨h1,h2⟩:=Xg he;cases h2;exact⟨rfl,fun k=>.inl (by simp only[QU,e];unfold Q4;rw[if_pos h1])⟩
   ·cases he
  case h_27 args ts =>
   split at he
   ·rename_i x t h1 h2
    obtain⟨h3,h4⟩:=mapc he;exact⟨h3,fun k=>.inl (by simp only[QU,h1,h2];exact h4 k)⟩
   ·cases he
  case h_28 args ts =>
   split at he
   ·rename_i x y h1
    obtain⟨h3,h4⟩:=mapc he;exact⟨h3,fun k=>.inl (by simp only[QU,h1];exact h4 k)⟩
   ·cases he
  case h_29 args ts =>
   split at he
   ·rename_i x y h1
    obtain⟨h3,h4⟩:=mapc he;exact⟨h3,fun k=>.inl (by simp only[QU,h1];exact h4 k)⟩
   ·cases he
  case h_30=>simp[Qx]at hc
  case h_31 args ts =>
   split at he
   ·rename_i x t h1 h2
    obtain⟨h3,h4⟩:=mapc he;exact⟨h3,fun k=>.inl (by simp only[QU,h1,h2];exact h4 k)⟩
   ·cases he
  case h_32=>simp[Qx]at hc
  case h_33=>simp[Qx]at hc
  case h_34=>cases he
 ·obtain⟨f,args,ts,rfl⟩:=J0 he
  cases hcall <;> simp[Qx]at hc
theorem YL {P:Program}{strict hcall:Bool}{nid:Option Nat}{op:Op}{ρ:Operand→AV}{h h':List AO}{v:AV}(hc:Qx hcall op=1)(he:Qq P tok strict hcall nid op ρ h v h') :
  h'=h∧(strict=true→∀k,(∀ (id v n:Nat) (f:Nat→AV),h[id]?=some (.con v n f)→k[id]?=some (.con v n f))→Qq P tok strict hcall nid op ρ k v k):=by
 cases op <;> try(simp[Qx]at hc;done)
 case load t a =>
  rcases he with he |he
  ·simp only[QU]at he
   cases hl:Qm P strict t (ρ a) h with
   |none=>simp[hl]at he
   |some x =>
    simp[hl]at he;obtain⟨rfl,rfl⟩:=he;refine⟨rfl,?_⟩;rintro rfl k hk;left;simp only[QU];have:Qm P true t (ρ a) k=some x:=by
     unfold Qm at hl ⊢;cases hd:Cc P t with
     |none=>simp[hd]at hl
     |some kk =>
      simp only[hd]at hl ⊢;cases ha:ρ a with
      |ptr m f off=>simpa [ha]using hl
      |ref id ver off =>
       simp only[ha]at hl ⊢;cases ho:h[id]? with
       |none=>simp[ho]at hl
       |some o =>
        cases o with
        |row v m f=>simp only[ho]at hl;have:=(Xg hl).1.1;cases this
        |con v m f=>rw[hk id v m f ho];simpa [ho]using hl
        |_=>simp[ho]at hl
      |_=>simp[ha]at hl
    simp[this]
  ·obtain⟨f,args,ts,e⟩:=J0 he;cases e
 case call c =>
  obtain⟨callee,args,ts⟩:=c;cases callee with
  |builtin b=>cases b <;> simp[Qx]at hc
  |invoke r m=>simp[Qx]at hc
  |value f =>
   cases hcall with
   |true=>simp[Qx]at hc
   |false =>
    rcases he with he | ⟨f',args',ts',e,g,caps,hf,hrel⟩
    ·simp[QU]at he
    ·cases e
     rcases hrel with⟨as',hw,h1,h2,h3⟩ | ⟨h1,as',h2,h3,h4,h5⟩ | ⟨h1,_⟩
     ·exact⟨h3,fun _ k _=>.inr ⟨f,args,ts,rfl,g,caps,hf,.inl ⟨as',hw,h1,h2,rfl⟩⟩⟩
     ·exact⟨h5,fun hs=>by rw[h1]at hs;cases hs⟩
     ·cases h1
theorem wc {P:Program}{strict hcall:Bool}{id:Nat}{op:Op}{ρ:Operand→AV}{h h':List AO}{v:AV}(hc:Qx hcall op=2)(he:Qq P tok strict hcall (some id) op ρ h v h') :
  ∃ob:AO,ob.owned=true∧h'=h.set id ob∧∀k,Qq P tok strict hcall (some id) op ρ k v (k.set id ob):=by
 rcases he with he |he
 ·cases op <;> try(simp[Qx]at hc;done)
  case alloc t =>
   simp only[QU,Ax]at he;cases hz:Q9 P t with
   |none=>simp[hz]at he
   |some z =>
    simp[hz,Qz,Kb]at he;obtain⟨rfl,rfl⟩:=he;exact⟨.row 0 z.length (Xf z),rfl,rfl,fun k=>.inl (by simp[QU,Ax,hz,Qz,Kb])⟩
  case box t x =>
   simp only[QU,MK]at he;obtain⟨h1,h2⟩:=Xg he;simp only[Qz,Kb,Option.getD_some,Option.some.injEq,Prod.mk.injEq]at h2;obtain⟨rfl,rfl⟩:=h2;exact⟨_,rfl,rfl,fun k=>.inl (by simp only[QU,MK];unfold Q4;rw[if_pos h1];rfl)⟩
  case makeSlice t l cp =>
   simp only[QU,DM]at he
   split at he
   ·rename_i e s b k1 n k2 m h1 h2 h3
    cases hz:Q9 P e with
    |none=>simp[hz]at he
    |some z =>
     simp only[hz]at he;obtain⟨h4,h5⟩:=Xg he;simp only[Qz,Kb,Option.getD_some,Option.some.injEq,Prod.mk.injEq]at h5;obtain⟨rfl,rfl⟩:=h5;exact⟨_,rfl,rfl,fun k=>.inl (by simp only[QU,DM,h1,h2,h3,hz];unfold Q4;rw[if_pos h4];rfl)⟩
   ·cases he
  case makeMap t r =>
   cases r with
   |some r=>simp[QU]at he
   |none =>
    simp only[QU,DY]at he
    split at he
    ·rename_i kt et h1
     split at he
     ·rename_i k h2
      simp only[Qz,Kb,Option.getD_some,Option.some.injEq,Prod.mk.injEq]at he;obtain⟨rfl,rfl⟩:=he;exact⟨_,rfl,rfl,fun k=>.inl (by simp only[QU,DY,h1,h2];rfl)⟩
     ·cases he
    ·cases he
  case call c =>
   obtain⟨callee,args,ts⟩:=c;cases callee with
   |builtin b=>cases b <;> simp[Qx]at hc
   |invoke r m=>simp[Qx]at hc
   |value f=>cases hcall <;> simp[Qx]at hc
 ·obtain⟨f,args,ts,rfl⟩:=J0 he
  cases hcall <;> simp[Qx]at hc
theorem L6 {s:Nat}{y:AV}{h:List AO}{r:Nat×(Nat→AV)} {id:Nat} {ob:AO} (hu:h[id]?=some .unborn) (hs:D6 s y h=some r):D6 s y (h.set id ob)=some r:=by
 unfold D6 at hs ⊢;cases y with
 |osl i ver es off n =>
  by_cases hi:id=i
  ·subst hi;simp[hu]at hs
  ·simpa [List.getElem?_set_ne hi]using hs
 |_=>exact hs
theorem Rb {P:Program}{strict hcall:Bool}{nid:Option Nat}{op:Op}{ρ:Operand→AV}{h h':List AO}{v:AV}(he:Qq P tok strict hcall nid op ρ h v h'){id:Nat}{ob:AO}(hu:h[id]?=some .unborn)
  (hne:nid≠some id) (hcond:strict=true∨BT op=true∨Qx hcall op=0∨(∀f args ts,op≠.call { callee:=.value f,args:=args,argTypes:=ts })) :
  Qq P tok strict hcall nid op ρ (h.set id ob) v (h'.set id ob)∧h'[id]?=some .unborn:=by
 have hlt:id<h.length:=(List.getElem?_eq_some_iff.1 hu).1;by_cases hb:strict=true∧Ht op=true
 ·obtain⟨rfl,hbs⟩:=hb
  cases op <;> simp only[Ht]at hbs <;> try(cases hbs;done)
  rename_i t n ps;rcases he with he |he
  ·replace he:KP P t n (ps.toList.map fun p=>(p.1,ρ p.2)) h=some (v,h'):=he
   have hg:Qq P tok true hcall nid (.buildSlice t n ps) ρ (h.set id ob) v (h'.set id ob)↔_:=Iff.rfl;unfold KP at he;cases hel:At P t with
   |none=>rw[hel]at he;cases he
   |some q =>
    obtain⟨e1,s1,b1⟩:=q;rw[hel]at he;cases hab:JL P t n (ps.toList.map fun p=>(p.1,ρ p.2))with
    |none=>rw[hab]at he;cases he
    |some w =>
     rw[hab]at he;cases w <;> simp only[Option.some.injEq,Prod.mk.injEq]at he <;> try(cases he;done)
     obtain⟨rfl,rfl⟩:=he;refine⟨.inl ?_,by rw[List.getElem?_append_left hlt];exact hu⟩;show KP P t n (ps.toList.map fun p=>(p.1,ρ p.2)) (h.set id ob)=_;unfold KP;rw[hel,hab];simp only[List.length_set];rw[List.set_append_left _ _ hlt]
  ·obtain⟨f,args,ts,e⟩:=J0 he;cases e
 by_cases h0:Qx hcall op=0
 ·obtain⟨rfl,h2⟩:=fT h0 (fun hs=>by cases hq:Ht op with |true=>exact absurd ⟨hs,hq⟩ hb |false=>rfl) he
  exact⟨h2 _,hu⟩
 have other:∀ {i:Nat} {o:AO},h[i]?=some o→o≠.unborn→i≠id:=by
  rintro i o ho hn rfl;rw[hu]at ho;cases ho;exact hn rfl
 have getO:∀ {i:Nat},i≠id→(h.set id ob)[i]?=h[i]?:=fun hi=>List.getElem?_set_ne (Ne.symm hi)
 have new:∀ (o:AO),Kb nid (h.set id ob) o=(Kb nid h o).set id ob∧(Kb nid h o)[id]?=some .unborn∧Qz nid (h.set id ob)=Qz nid h:=by
  intro o;cases nid with
  |none =>
   refine⟨?_,?_,by simp[Qz]⟩
   ·simp only[Kb];rw[List.set_append_left _ _ hlt]
   ·simp only[Kb];rw[List.getElem?_append_left hlt];exact hu
  |some j =>
   have hj:j≠id:=fun e=>hne (by rw[e])
   refine⟨?_,?_,rfl⟩
   ·simp only[Kb];rw[List.set_comm _ _ (Ne.symm hj)]
   ·simp only[Kb];rw[List.getElem?_set_ne hj];exact hu
 rcases he with he |he
 ·cases op <;> try(first |exact absurd rfl h0 | (simp[QU]at he;done))
  case load t a =>
   simp only[QU]at he;cases hl:Qm P strict t (ρ a) h with
   |none=>simp[hl]at he
   |some x =>
    simp[hl]at he;obtain⟨rfl,rfl⟩:=he;refine⟨.inl ?_,hu⟩;simp only[QU];have:Qm P strict t (ρ a) (h.set id ob)=some x:=by
     unfold Qm at hl ⊢;cases hd:Cc P t with
     |none=>simp[hd]at hl
     |some kk =>
      simp only[hd]at hl ⊢;cases ha:ρ a with
      |ptr m f off=>simpa [ha]using hl
      |ref i ver off =>
       simp only[ha]at hl ⊢;cases ho:h[i]? with
       |none=>simp[ho]at hl
       |some o =>
        have hi:i≠id:=other ho (by rintro rfl;simp[ho]at hl);rw[getO hi];exact hl
      |_=>simp[ha]at hl
    simp[this]
  case store t a x =>
   simp only[QU]at he;cases hl:KU P strict t (ρ a) (ρ x) h with
   |none=>simp[hl]at he
   |some h1 =>
    simp[hl]at he;obtain⟨rfl,rfl⟩:=he;unfold KU at hl;cases ha:ρ a with
    |ref i ver off =>
     simp only[ha]at hl;cases ho:h[i]? with
     |none=>simp[ho]at hl
     |some o =>
      have hi:i≠id:=other ho (by rintro rfl;simp[ho]at hl);simp only[ho]at hl;cases o with
      |row v' m f =>
       obtain⟨h2,h3⟩:=Xg hl;cases h3;refine⟨.inl ?_,by rw[List.getElem?_set_ne hi];exact hu⟩;simp only[QU,KU,ha,getO hi,ho];unfold Q4;rw[if_pos h2,List.set_comm _ _ (Ne.symm hi)];rfl
      |_=>simp at hl
    |_=>simp[ha]at hl
  case alloc t =>
   simp only[QU,Ax]at he;cases hz:Q9 P t with
   |none=>simp[hz]at he
   |some z =>
    simp[hz]at he;obtain⟨rfl,rfl⟩:=he;obtain⟨e1,e2,e3⟩:=new (.row 0 z.length (Xf z));exact⟨.inl (by simp[QU,Ax,hz,e1,e3]),e2⟩
  case box t x =>
   simp only[QU,MK]at he;obtain⟨h1,h2⟩:=Xg he;simp only[Option.some.injEq,Prod.mk.injEq]at h2;obtain⟨rfl,rfl⟩:=h2;obtain⟨e1,e2,e3⟩:=new (.row 0 (ρ x).cells.length (Xf ((ρ x).cells.map AV.boxed)));exact⟨.inl (by simp only[QU,MK];unfold Q4;rw[if_pos h1,e1,e3]),e2⟩
  case makeSlice t l cp =>
   simp only[QU,DM]at he
   split at he
   ·rename_i e s b k1 n k2 m h1 h2 h3
    cases hz:Q9 P e with
    |none=>simp[hz]at he
    |some z =>
     simp only[hz]at he;obtain⟨h4,h5⟩:=Xg he;simp only[Option.some.injEq,Prod.mk.injEq]at h5;obtain⟨rfl,rfl⟩:=h5;obtain⟨e1,e2,e3⟩:=new (.row 0 (n.toNat*s) (ZE z));exact⟨.inl (by simp only[QU,DM,h1,h2,h3,hz];unfold Q4;rw[if_pos h4,e1,e3]),e2⟩
   ·cases he
  case makeMap t r =>
   cases r with
   |some r=>simp[QU]at he
   |none =>
    simp only[QU,DY]at he
    split at he
    ·rename_i kt et h1
     split at he
     ·rename_i k h2
      simp only[Option.some.injEq,Prod.mk.injEq]at he;obtain⟨rfl,rfl⟩:=he;obtain⟨e1,e2,e3⟩:=new (.map k fun _=>none);exact⟨.inl (by simp only[QU,DY,h1,h2,e1,e3]),e2⟩
     ·cases he
    ·cases he
  case lookup t x i ok =>
   simp only[QU]at he;cases hl:D5 P t (ρ x) (ρ i) ok h with
   |none=>simp[hl]at he
   |some y =>
    simp[hl]at he;obtain⟨rfl,rfl⟩:=he;refine⟨.inl ?_,hu⟩;simp only[QU];have:D5 P t (ρ x) (ρ i) ok (h.set id ob)=some y:=by
     unfold D5 at hl ⊢
     split at hl
     ·rename_i kt et ik n h1 h2
      split at hl
      ·rename_i k z h3 h4
       split at hl
       ·rename_i h5;exact hl
       ·exact hl
       ·rename_i j h5
        cases ho:h[j]? with
        |none=>simp[ho]at hl
        |some o =>
         have hj:j≠id:=other ho (by rintro rfl;simp[ho]at hl);simp only[getO hj];exact hl
       ·cases hl
      ·cases hl
     ·cases hl
    simp[this]
  case mapUpdate t m k x =>
   simp only[QU]at he;cases hl:KR P t (ρ m) (ρ k) (ρ x) h with
   |none=>simp[hl]at he
   |some h1 =>
    simp[hl]at he;obtain⟨rfl,rfl⟩:=he;unfold KR at hl
    split at hl
    ·rename_i kt et j ik n e1 e2 e3
     split at hl
     ·rename_i kk k' g e4 ho
      have hj:j≠id:=other ho (by simp);obtain⟨h2,h3⟩:=Xg hl;cases h3;refine⟨.inl ?_,by rw[List.getElem?_set_ne hj];exact hu⟩;simp only[QU,KR,e1,e2,e3,e4,getO hj,ho];unfold Q4;rw[if_pos h2,List.set_comm _ _ (Ne.symm hj)];rfl
     ·cases hl
    ·cases hl
  case insert t m k x =>
   simp only[QU]at he;cases hl:KR P t (ρ m) (ρ k) (ρ x) h with
   |none=>simp[hl]at he
   |some h1 =>
    simp[hl]at he;obtain⟨rfl,rfl⟩:=he;unfold KR at hl
    split at hl
    ·rename_i kt et j ik n e1 e2 e3
     split at hl
     ·rename_i kk k' g e4 ho
      have hj:j≠id:=other ho (by simp);obtain⟨h2,h3⟩:=Xg hl;cases h3;refine⟨.inl ?_,by rw[List.getElem?_set_ne hj];exact hu⟩;simp only[QU,KR,e1,e2,e3,e4,getO hj,ho];unfold Q4;rw[if_pos h2,List.set_comm _ _ (Ne.symm hj)];rfl
     ·cases hl
    ·cases hl
  case call c =>
   obtain⟨callee,args,ts⟩:=c;cases callee with
   |invoke r m=>simp[QU]at he
   |value f=>simp[QU]at he
   |builtin b =>
    cases b <;> try(first | (simp[QU]at he;done) | (exact absurd rfl h0))
    case clear =>
     simp only[QU]at he
     split at he
     ·rename_i x t e1 e2
      have hap:Fw P t (ρ x) h=some (v,h')→Fw P t (ρ x) (h.set id ob)=some (v,h'.set id ob)∧h'[id]?=some .unborn:=by
       intro h2;unfold Fw at h2 ⊢;cases hel:At P t with
       |none=>simp[hel]at h2
       |some q =>
        obtain⟨e,s,by_⟩:=q;simp only[hel]at h2 ⊢;cases hx:ρ x with
        |osl i ver es off n =>
         simp only[hx]at h2 ⊢;cases ho:h[i]? with
         |none=>simp[ho]at h2
         |some o =>
          have hi:i≠id:=other ho (by rintro rfl;simp[ho]at h2);simp only[getO hi,ho]at h2 ⊢;cases o with
          |row v' k f =>
           obtain⟨h3,h4⟩:=Xg h2;simp only[Option.some.injEq,Prod.mk.injEq]at h4;obtain⟨rfl,rfl⟩:=h4;refine⟨?_,by rw[List.getElem?_set_ne hi];exact hu⟩
           dsimp only
           unfold Q4;rw[if_pos h3,List.set_comm _ _ (Ne.symm hi)]
          |_=>simp at h2
        |_=>simp[hx]at h2
      refine⟨.inl ?_,(hap he).2⟩;simp only[QU,e1,e2];exact(hap he).1
     ·cases he
    case copy =>
     simp only[QU]at he
     split at he
     ·rename_i x y t t' e1 e2
      have hap:Fe P t (ρ x) (ρ y) h=some (v,h')→Fe P t (ρ x) (ρ y) (h.set id ob)=some (v,h'.set id ob)∧h'[id]?=some .unborn:=by
       intro h2;unfold Fe at h2 ⊢;cases hel:At P t with
       |none=>simp[hel]at h2
       |some q =>
        obtain⟨e,s,by_⟩:=q;simp only[hel]at h2 ⊢;cases hsr:D6 s (ρ y) h with
        |none=>simp[hsr]at h2
        |some q =>
         obtain⟨m,g⟩:=q;simp only[hsr]at h2;simp only[L6 (ob:=ob) hu hsr];cases hx:ρ x with
         |osl i ver es off n =>
          simp only[hx]at h2 ⊢;cases ho:h[i]? with
          |none=>simp[ho]at h2
          |some o =>
           have hi:i≠id:=other ho (by rintro rfl;simp[ho]at h2);simp only[getO hi,ho]at h2 ⊢;cases o with
           |row v' k f =>
            obtain⟨h3,h4⟩:=Xg h2;simp only[Option.some.injEq,Prod.mk.injEq]at h4;obtain⟨rfl,rfl⟩:=h4;refine⟨?_,by rw[List.getElem?_set_ne hi];exact hu⟩
            dsimp only
            unfold Q4;rw[if_pos h3,List.set_comm _ _ (Ne.symm hi)]
           |_=>simp at h2
         |_=>simp[hx]at h2
      refine⟨.inl ?_,(hap he).2⟩;simp only[QU,e1,e2];exact(hap he).1
     ·cases he
    case append =>
     simp only[QU]at he
     split at he
     ·rename_i x y t t' e1 e2
      have hz:JQ P t t' (ρ x) (ρ y) h=some (v,h')→JQ P t t' (ρ x) (ρ y) (h.set id ob)=some (v,h'.set id ob)∧h'[id]?=some .unborn:=by
       intro h2;unfold JQ at h2 ⊢
       split at h2
       ·split at h2
        ·rename_i z hz
         obtain⟨h3,h4⟩:=Xg h2;simp only[Option.some.injEq,Prod.mk.injEq]at h4;obtain⟨rfl,rfl⟩:=h4;refine⟨?_,by rw[List.getElem?_append_left hlt];exact hu⟩;unfold Q4;rw[if_pos h3,List.set_append_left _ _ hlt,List.length_set]
        ·cases h2
       ·split at h2
        ·split at h2
         ·rename_i h0
          cases h2;exact⟨if_pos h0,hu⟩
         ·rename_i h0
          obtain⟨h3,h4⟩:=Xg h2;simp only[Option.some.injEq,Prod.mk.injEq]at h4;obtain⟨rfl,rfl⟩:=h4;refine⟨?_,by rw[List.getElem?_append_left hlt];exact hu⟩;unfold Q4;simp only[if_neg h0];rw[if_pos h3,List.set_append_left _ _ hlt,List.length_set]
        ·cases h2
       ·rename_i i ver es off N n _ _ _ _
        split at h2
        ·cases ho:h[i]? with
         |none=>simp[ho]at h2
         |some o =>
          have hi:i≠id:=other ho (by rintro rfl;simp[ho]at h2);simp only[getO hi,ho]at h2 ⊢;cases o with
          |row v' k f =>
           simp only at h2 ⊢;by_cases h0:n=0
           ·rw[if_pos h0]at h2 ⊢
            cases h2;exact⟨rfl,hu⟩
           ·rw[if_neg h0]at h2 ⊢
            obtain⟨h3,h4⟩:=Xg h2;simp only[Option.some.injEq,Prod.mk.injEq]at h4;obtain⟨rfl,rfl⟩:=h4;refine⟨?_,by rw[List.getElem?_set_ne hi];exact hu⟩;unfold Q4;rw[if_pos h3,List.set_comm _ _ (Ne.symm hi)]
          |_=>simp at h2
        ·cases h2
       ·cases h2
      have hap:QG P t (ρ x) (ρ y) h=some (v,h')→QG P t (ρ x) (ρ y) (h.set id ob)=some (v,h'.set id ob)∧h'[id]?=some .unborn:=by
       intro h2;unfold QG at h2 ⊢;cases hel:At P t with
       |none=>simp[hel]at h2
       |some q =>
        obtain⟨e,s,by_⟩:=q;simp only[hel]at h2 ⊢;cases hsr:D6 s (ρ y) h with
        |none=>simp[hsr]at h2
        |some q =>
         obtain⟨m,g⟩:=q;simp only[hsr]at h2;simp only[L6 (ob:=ob) hu hsr];cases hx:ρ x with
         |osl i ver es off n =>
          simp only[hx]at h2 ⊢;cases ho:h[i]? with
          |none=>simp[ho]at h2
          |some o =>
           have hi:i≠id:=other ho (by rintro rfl;simp[ho]at h2);simp only[getO hi,ho]at h2 ⊢;cases o with
           |row v' k f =>
            obtain⟨h3,h4⟩:=Xg h2;simp only[Option.some.injEq,Prod.mk.injEq]at h4;obtain⟨rfl,rfl⟩:=h4;refine⟨?_,by rw[List.getElem?_set_ne hi];exact hu⟩
            dsimp only
            unfold Q4;rw[if_pos h3,List.set_comm _ _ (Ne.symm hi)]
           |_=>simp at h2
         |sl n k f tt =>
          simp only[hx]at h2 ⊢;cases tt with
          |false=>simp at h2
          |true =>
           simp only at h2 ⊢;by_cases hz0:m=0∧0<n
           ·rw[if_pos hz0]at h2 ⊢
            cases h2;exact⟨rfl,hu⟩
           rw[if_neg hz0]at h2 ⊢;obtain⟨h3,h4⟩:=Xg h2;simp only[Option.some.injEq,Prod.mk.injEq]at h4;obtain⟨rfl,rfl⟩:=h4;refine⟨?_,by rw[List.getElem?_append_left hlt];exact hu⟩;unfold Q4;rw[if_pos h3,List.set_append_left _ _ hlt,List.length_set]
         |_=>simp[hx]at h2
      split at he
      ·rename_i h1
       refine⟨.inl ?_,(hap he).2⟩;simp only[QU,e1,e2];rw[if_pos h1];exact(hap he).1
      ·rename_i h1
       refine⟨.inl ?_,(hz he).2⟩;simp only[QU,e1,e2];rw[if_neg h1];exact(hz he).1
     ·cases he
 ·obtain⟨f,args,ts,rfl,g,caps,hf,hrel⟩:=he
  have hst:strict=true:=by
   rcases hcond with h |h |h |h
   ·exact h
   ·simp[BT]at h
   ·exact absurd h h0
   ·exact absurd rfl (h f args ts)
  rcases hrel with⟨as',hw,h1,h2,rfl⟩ | ⟨h1,_⟩ | ⟨h1,as',hw,E,hE,rfl,hcon,hset,hub⟩
  ·exact⟨.inr ⟨f,args,ts,rfl,g,caps,hf,.inl ⟨as',hw,h1,h2,rfl⟩⟩,hu⟩
  ·rw[hst]at h1;cases h1
  ·have hov:∀h2,de (h.set id ob) h2→de h h2:=fun h2 ho i hi=>by
    have hne':i≠id:=fun e=>hi (by rw[e];exact hu)
    have:=ho i (by rw[getO hne'];exact hi);rw[this,getO hne']
   refine⟨.inr ⟨f,args,ts,rfl,g,caps,hf,.inr (.inr ⟨h1,as',hw,E,fun h2 ho=>hE h2 (hov h2 ho),hset h id ob (fun _ _=>rfl) hu,?_,?_,?_⟩)⟩,hub id hu⟩
   ·intro i v n g'
    by_cases hi:i=id
    ·subst hi
     have hlt':i<(E h).length:=(List.getElem?_eq_some_iff.1 (hub i hu)).1;simp[hlt,hlt']
    ·rw[getO hi,List.getElem?_set_ne (Ne.symm hi)];exact hcon i v n g'
   ·intro h2 i ob' ho hi
    by_cases hii:i=id
    ·subst hii
     exact hset h2 i ob' (hov h2 ho) hu
    ·rw[getO hii]at hi
     exact hset h2 i ob' (hov h2 ho) hi
   ·intro i hi
    by_cases hii:i=id
    ·subst hii
     have hlt':i<(E h).length:=(List.getElem?_eq_some_iff.1 (hub i hu)).1;simp[hlt]at hi;simp[hlt',hi]
    ·rw[getO hii]at hi
     rw[List.getElem?_set_ne (Ne.symm hii)];exact hub i hi
theorem Ku (h:List AO):JP h h:=fun _ _ _ _=>Iff.rfl
theorem QE {h:List AO}{id:Nat}{o ob:AO}(ho:h[id]?=some o)(h1:∀ v n f,o≠.con v n f)(h2:∀v n f,ob≠.con v n f):JP h (h.set id ob):=by
 intro i v n f;by_cases hi:id=i
 ·subst hi
  have hlt:=(List.getElem?_eq_some_iff.1 ho).1;simp only[List.getElem?_set_self hlt,ho,Option.some.injEq];exact⟨fun e=>absurd e (h1 v n f),fun e=>absurd e (h2 v n f)⟩
 ·rw[List.getElem?_set_ne hi]
theorem Zf {h:List AO}{ob:AO}(h2:∀v n f,ob≠.con v n f):JP h (h ++ [ob]):=by
 intro i v n f;rw[List.getElem?_append]
 split
 ·rfl
 ·rename_i hi
  rw[List.getElem?_eq_none (by omega)];constructor
  ·intro e;cases e
  ·intro e
   cases hj:i-h.length with
   |zero=>rw[hj]at e;simp at e;exact absurd e (h2 v n f)
   |succ k=>rw[hj]at e;simp at e
theorem EG {nid:Option Nat}{h:List AO}{ob:AO}(hu:∀ id,nid=some id→h[id]?=some .unborn)(h2:∀v n f,ob≠.con v n f):JP h (Kb nid h ob):=by
 cases nid with
 |none=>exact Zf h2
 |some id=>exact QE (hu id rfl) (by simp) h2
theorem fU {P:Program}{strict hcall:Bool}{nid:Option Nat}{op:Op}{ρ:Operand→AV}{h h':List AO}{v:AV}(he:Qq P tok strict hcall nid op ρ h v h')(hu:∀id,nid=some id→h[id]?=some .unborn):JP h h':=by
 by_cases hb:strict=true∧Ht op=true
 ·obtain⟨rfl,hbs⟩:=hb
  cases op <;> simp only[Ht]at hbs <;> try(cases hbs;done)
  rename_i t n ps;rcases he with he |he
  ·replace he:KP P t n (ps.toList.map fun p=>(p.1,ρ p.2)) h=some (v,h'):=he
   unfold KP at he
   split at he
   ·split at he
    ·cases he
     exact Zf (by simp)
    ·cases he
   ·cases he
  ·obtain⟨f,args,ts,e⟩:=J0 he;cases e
 by_cases h0:Qx hcall op=0
 ·obtain⟨rfl,_⟩:=fT h0 (fun hs=>by cases hq:Ht op with |true=>exact absurd ⟨hs,hq⟩ hb |false=>rfl) he;exact Ku _
 by_cases h1:Qx hcall op=1
 ·obtain⟨rfl,_⟩:=YL h1 he;exact Ku _
 rcases he with he |he
 ·cases op <;> try(first |exact absurd rfl h0 |exact absurd rfl h1 | (simp[QU]at he;done))
  case store t a x =>
   simp only[QU]at he;cases hl:KU P strict t (ρ a) (ρ x) h with
   |none=>simp[hl]at he
   |some h1 =>
    simp[hl]at he;obtain⟨rfl,rfl⟩:=he;unfold KU at hl;cases ha:ρ a with
    |ref i ver off =>
     simp only[ha]at hl;cases ho:h[i]? with
     |none=>simp[ho]at hl
     |some o =>
      simp only[ho]at hl;cases o with
      |row v' m f =>
       obtain⟨h2,h3⟩:=Xg hl;cases h3;exact QE ho (by simp) (by simp)
      |_=>simp at hl
    |_=>simp[ha]at hl
  case alloc t =>
   simp only[QU,Ax]at he;cases hz:Q9 P t with
   |none=>simp[hz]at he
   |some z =>
    simp[hz]at he;obtain⟨rfl,rfl⟩:=he;exact EG hu (by simp)
  case box t x =>
   simp only[QU,MK]at he;obtain⟨h1,h2⟩:=Xg he;simp only[Option.some.injEq,Prod.mk.injEq]at h2;obtain⟨rfl,rfl⟩:=h2;exact EG hu (by simp)
  case makeSlice t l cp =>
   simp only[QU,DM]at he
   split at he
   ·rename_i e s b k1 n k2 m h1 h2 h3
    cases hz:Q9 P e with
    |none=>simp[hz]at he
    |some z =>
     simp only[hz]at he;obtain⟨h4,h5⟩:=Xg he;simp only[Option.some.injEq,Prod.mk.injEq]at h5;obtain⟨rfl,rfl⟩:=h5;exact EG hu (by simp)
   ·cases he
  case makeMap t r =>
   cases r with
   |some r=>simp[QU]at he
   |none =>
    simp only[QU,DY]at he
    split at he
    ·split at he
     ·simp only[Option.some.injEq,Prod.mk.injEq]at he
      obtain⟨rfl,rfl⟩:=he;exact EG hu (by simp)
     ·cases he
    ·cases he
  case lookup t x i ok =>
   simp only[QU]at he;cases hl:D5 P t (ρ x) (ρ i) ok h with
   |none=>simp[hl]at he
   |some y=>simp[hl]at he;obtain⟨rfl,rfl⟩:=he;exact Ku _
  case mapUpdate t m k x =>
   simp only[QU]at he;cases hl:KR P t (ρ m) (ρ k) (ρ x) h with
   |none=>simp[hl]at he
   |some h1 =>
    simp[hl]at he;obtain⟨rfl,rfl⟩:=he;unfold KR at hl
    split at hl
    ·split at hl
     ·rename_i kk k' g e4 ho
      obtain⟨h2,h3⟩:=Xg hl;cases h3;exact QE ho (by simp) (by simp)
     ·cases hl
    ·cases hl
  case insert t m k x =>
   simp only[QU]at he;cases hl:KR P t (ρ m) (ρ k) (ρ x) h with
   |none=>simp[hl]at he
   |some h1 =>
    simp[hl]at he;obtain⟨rfl,rfl⟩:=he;unfold KR at hl
    split at hl
    ·split at hl
     ·rename_i kk k' g e4 ho
      obtain⟨h2,h3⟩:=Xg hl;cases h3;exact QE ho (by simp) (by simp)
     ·cases hl
    ·cases hl
  case call c =>
   obtain⟨callee,args,ts⟩:=c;cases callee with
   |invoke r m=>simp[QU]at he
   |value f=>simp[QU]at he
   |builtin b =>
    cases b <;> try(first | (simp[QU]at he;done) | (exact absurd rfl h0))
    case clear =>
     simp only[QU]at he
     split at he
     ·have h2:=he
      unfold Fw at h2
      split at h2
      ·cases h2
      ·split at h2
       ·split at h2
        ·rename_i ho
         obtain⟨h3,h4⟩:=Xg h2;simp only[Option.some.injEq,Prod.mk.injEq]at h4;obtain⟨rfl,rfl⟩:=h4;exact QE ho (by simp) (by simp)
        ·cases h2
       ·cases h2
     ·cases he
    case copy =>
     simp only[QU]at he
     split at he
     ·have h2:=he
      unfold Fe at h2
      split at h2
      ·cases h2
      ·split at h2
       ·cases h2
       ·split at h2
        ·split at h2
         ·rename_i ho
          obtain⟨h3,h4⟩:=Xg h2;simp only[Option.some.injEq,Prod.mk.injEq]at h4;obtain⟨rfl,rfl⟩:=h4;exact QE ho (by simp) (by simp)
         ·cases h2
        ·cases h2
     ·cases he
    case append =>
     simp only[QU]at he
     split at he
     ·rename_i x y t t' e1 e2
      split at he
      ·rename_i h1
       have h2:=he;unfold QG at h2
       split at h2
       ·cases h2
       ·split at h2
        ·cases h2
        ·split at h2
         ·split at h2
          ·rename_i ho
           obtain⟨h3,h4⟩:=Xg h2;simp only[Option.some.injEq,Prod.mk.injEq]at h4;obtain⟨rfl,rfl⟩:=h4;exact QE ho (by simp) (by simp)
          ·cases h2
         ·split at h2
          ·cases h2;exact fun _ _ _ _=>Iff.rfl
          obtain⟨h3,h4⟩:=Xg h2;simp only[Option.some.injEq,Prod.mk.injEq]at h4;obtain⟨rfl,rfl⟩:=h4;exact Zf (by simp)
         ·cases h2
      ·have h2:=he
       unfold JQ at h2
       split at h2
       ·split at h2
        ·obtain⟨h3,h4⟩:=Xg h2
         simp only[Option.some.injEq,Prod.mk.injEq]at h4;obtain⟨rfl,rfl⟩:=h4;exact Zf (by simp)
        ·cases h2
       ·split at h2
        ·split at h2
         ·cases h2;exact fun _ _ _ _=>Iff.rfl
         ·obtain⟨h3,h4⟩:=Xg h2
          simp only[Option.some.injEq,Prod.mk.injEq]at h4;obtain⟨rfl,rfl⟩:=h4;exact Zf (by simp)
        ·cases h2
       ·rename_i i ver es off N n _ _ _ _
        split at h2
        ·cases ho:h[i]? with
         |none=>simp[ho]at h2
         |some o =>
          simp only[ho]at h2;cases o with
          |row v' k f =>
           simp only at h2
           split at h2
           ·cases h2;exact fun _ _ _ _=>Iff.rfl
           ·obtain⟨h3,h4⟩:=Xg h2
            simp only[Option.some.injEq,Prod.mk.injEq]at h4;obtain⟨rfl,rfl⟩:=h4;exact QE ho (by simp) (by simp)
          |_=>simp at h2
        ·cases h2
       ·cases h2
     ·cases he
 ·obtain⟨f,args,ts,rfl,g,caps,hf,hrel⟩:=he
  rcases hrel with⟨_,_,_,_,rfl⟩ | ⟨_,_,_,_,_,rfl⟩ | ⟨_,_,_,E,_,_,hcon,_⟩
  ·exact Ku _
  ·exact Ku _
  ·exact hcon
structure AS.eqv (s t:AS):Prop where
 n0:s.n0=t.n0
 hid:s.hid=t.hid
 len:s.sl.length=t.sl.length
 h:s.h=t.h
 get:∀i,s.get i=t.get i
theorem AS.eqv.rfl' (s:AS):s.eqv s:=⟨rfl,rfl,rfl,rfl,fun _=>rfl⟩
theorem AS.eqv.trans {a b c:AS}(h:a.eqv b)(k:b.eqv c):a.eqv c:=⟨h.n0.trans k.n0,h.hid.trans k.hid,h.len.trans k.len,h.h.trans k.h,fun i=>(h.get i).trans (k.get i)⟩
theorem UC (s:AS)(i:Nat)(v:AV):(s.put i v).n0=s.n0:=by unfold AS.put;split <;> rfl
theorem Wh (s:AS)(i:Nat)(v:AV):(s.put i v).hid=s.hid:=by unfold AS.put;split <;> rfl
theorem Pa (s:AS)(i:Nat)(v:AV):(s.put i v).sl.length=s.sl.length:=by unfold AS.put;split <;> simp
theorem GA (s:AS)(i j:Nat)(v:AV):(s.put i v).get j=if j=i∧(i<s.n0→i<s.sl.length)then v else s.get j:=by
 unfold AS.put AS.get;by_cases hi:i<s.n0
 ·simp only[hi,if_true]
  by_cases hj:j<s.n0
  ·simp only[hj,if_true,EL]
   by_cases he:j=i
   ·subst he
    by_cases hl:j<s.sl.length
    ·simp[hl]
    ·simp[hl]
   ·simp[he,Ne.symm he]
  ·have:j≠i:=by omega
   simp[hj,this]
 ·simp only[hi,if_false]
  by_cases hj:j<s.n0
  ·have:j≠i:=by omega
   simp[hj,this]
  ·simp only[hj,if_false,XA]
   by_cases he:j=i <;> simp[he]
theorem AS.eqv.putO {s t:AS}(h:s.eqv t)(hh:List AO)(d:Option Nat)(v:AV):(({ s with h:=hh }:AS).putO d v).eqv (({ t with h:=hh }:AS).putO d v):=by
 cases d with
 |none=>exact⟨h.n0,h.hid,h.len,rfl,h.get⟩
 |some i =>
  refine⟨by simp[AS.putO,UC,h.n0],by simp[AS.putO,Wh,h.hid],by simp[AS.putO,Pa,h.len],by simp[AS.putO],fun j=>?_⟩;simp only[AS.putO,GA,h.n0,h.len];have:=h.get j;unfold AS.get at this ⊢;simp only[h.n0]at this ⊢
  split
  ·rfl
  ·exact this
theorem AS.eqv.ev {s t:AS}(h:s.eqv t)(x:Operand):s.ev x=t.ev x:=by
 cases x <;> simp[AS.ev,h.get]
theorem AS.eqv.gval {s t:AS}(h:s.eqv t)(all:Array Oper)(o:Oper):gval all s o=gval all t o:=by
 unfold Ab.gval;cases o.guard with
 |none=>rfl
 |some q =>
  obtain⟨j,w⟩:=q;simp only[h.get]
theorem GStep.eqv {P:Program}{strict:Nat→Bool}{hcall:Bool}{nid:Nat→Option Nat}{all:Array Oper}{i:Nat}{s s1 t:AS}(h:GStep P tok strict hcall nid all i s s1)(he:s.eqv t):∃t1,GStep P tok strict hcall nid all i t t1∧s1.eqv t1:=by
 obtain⟨o,ho,h⟩:=h;have hev:s.ev=t.ev:=funext he.ev;rcases h with⟨hg,hu,v,h',hh,rfl⟩ | ⟨hg,rfl⟩
 ·refine⟨_,⟨o,ho,.inl ⟨by rw[←he.gval];exact hg,by rw[←he.h];exact hu,v,h',by rw[←hev,←he.h];exact hh,rfl⟩⟩,he.putO h' o.dst v⟩
 ·refine⟨_,⟨o,ho,.inr ⟨by rw[←he.gval];exact hg,rfl⟩⟩,?_⟩
  have:=he.putO t.h o.dst XO;rw[show({ s with h:=t.h }:AS)=s by rw[←he.h]]at this;exact this
theorem AExec.eqv {P:Program}{strict:Nat→Bool}{hcall:Bool}{nid:Nat→Option Nat}{all:Array Oper}:∀ {l:List Nat} {s s' t:AS},AExec P tok strict hcall nid all l s s'→s.eqv t→∃t',AExec P tok strict hcall nid all l t t'∧s'.eqv t'
 | [],s,s',t,h,he=>by cases h;exact⟨t,rfl,he⟩
 |i :: l,s,s',t,⟨s1,h1,h2⟩,he=>by
  obtain⟨t1,g1,e1⟩:=h1.eqv he;obtain⟨t',g2,e2⟩:=AExec.eqv h2 e1;exact⟨t',⟨t1,g1,g2⟩,e2⟩
theorem St.eqv {N:Nat}{c:Ctx}{a:Act}{s t:AS}(h:St N c a s)(he:s.eqv t):St N c a t :=
 ⟨h.size,h.defers,fun i=>by rw[←he.get];exact h.slots i,by rw[←he.h];exact h.heap,h.hrel⟩
variable {tok:List Tok}
theorem Ye {P:Program}{strict:Bool}{nid:Option Nat}{op:Op}{ρ ρ':Operand→AV}(hρ:∀ x∈op.operands,ρ x=ρ' x)(h:List AO):QU P strict nid op ρ h=QU P strict nid op ρ' h:=by
  have pairs:∀ps:Array (Nat×Operand),(∀x∈(ps.toList.map (·.2)).toArray,ρ x=ρ' x)→(ps.toList.map fun p=>(p.1,ρ p.2))=(ps.toList.map fun p=>(p.1,ρ' p.2)):=by
    intro ps hp;refine List.map_congr_left fun p hm=>?_
    rw[hp p.2 (by simp;exact⟨p.1,by simpa using hm⟩)]
  cases op <;> simp only[Op.operands]at hρ
  case move x=>simp[QU,hρ x (by simp)]
  case assign x=>simp[QU,hρ x (by simp)]
  case pick c a b=>simp[QU,hρ c (by simp),hρ a (by simp),hρ b (by simp)]
  case box t x=>simp[QU,hρ x (by simp)]
  case build t ps=>simp only[QU,pairs ps hρ]
  case buildSlice t n ps=>simp only[QU,pairs ps hρ]
  case load t a=>simp[QU,hρ a (by simp)]
  case store t a x=>simp[QU,hρ a (by simp),hρ x (by simp)]
  case nilCheck x=>simp[QU,hρ x (by simp)]
  case binOp op t x y u=>simp[QU,hρ x (by simp),hρ y (by simp)]
  case unOp op t x=>simp[QU,hρ x (by simp)]
  case convert s d x=>simp[QU,hρ x (by simp)]
  case makeFunc fn first caps =>
    have:caps.toList.map ρ=caps.toList.map ρ':=List.map_congr_left fun x hx=>hρ x (by simp;right;simpa using hx)
    have this2:first.toList.map ρ=first.toList.map ρ':=List.map_congr_left fun x hx=>hρ x (by simp;left;simpa using hx)
    cases fn <;> simp[QU,this,this2]
  case makeSlice t l c=>simp[QU,hρ l (by simp),hρ c (by simp)]
  case slice t x lo hi mx =>
    have h0:=hρ x (by simp);have h1:lo.map ρ=lo.map ρ':=by cases lo <;> simp_all
    have h2:hi.map ρ=hi.map ρ':=by cases hi <;> simp_all
    have h3:mx.map ρ=mx.map ρ':=by cases mx <;> simp_all
    simp[QU,h0,h1,h2,h3]
  case fieldAddr t x i=>simp[QU,hρ x (by simp)]
  case field t x i=>simp[QU,hρ x (by simp)]
  case indexAddr t x i=>simp[QU,hρ x (by simp),hρ i (by simp)]
  case index t x i=>simp[QU,hρ x (by simp),hρ i (by simp)]
  case sliceToArrayPointer t x=>simp[QU,hρ x (by simp)]
  case lookup t x i ok=>simp[QU,hρ x (by simp),hρ i (by simp)]
  case mapUpdate t m k v=>simp[QU,hρ m (by simp),hρ k (by simp),hρ v (by simp)]
  case insert t m k v=>simp[QU,hρ m (by simp),hρ k (by simp),hρ v (by simp)]
  case extract x i=>simp[QU,hρ x (by simp)]
  case makeMap t r=>cases r <;> rfl
  case call c =>
    obtain⟨callee,args,ts⟩:=c;have hargs:∀x∈args.toList,ρ x=ρ' x:=fun x hx=>hρ x (by simp[Call.operands];right;simpa using hx)
    cases callee with
    |value f=>rfl
    |invoke r m=>rfl
    |builtin b =>
      cases b <;> first
        |rfl
        | (simp only[QU]
           split <;> first
             |rfl
             | (rename_i x y t t' e1 e2;simp[hargs x (by rw[e1];simp),hargs y (by rw[e1];simp)])
             | (rename_i x t e1 e2;simp[hargs x (by rw[e1];simp)])
             | (rename_i x y e1;simp[hargs x (by rw[e1];simp),hargs y (by rw[e1];simp)]))
  all_goals rfl
theorem OJ {P:Program}{strict hcall:Bool}{op:Op}{ρ ρ':Operand→AV}(hρ:∀ x∈op.operands,ρ x=ρ' x){h h':List AO}{v:AV}(hc:H5 P tok strict hcall op ρ h v h'):H5 P tok strict hcall op ρ' h v h':=by
 obtain⟨f,args,ts,rfl,hr⟩:=hc;refine⟨f,args,ts,rfl,?_⟩;have h1:ρ f=ρ' f:=hρ f (by simp[Op.operands,Call.operands]);have h2:args.toList.map ρ=args.toList.map ρ':=List.map_congr_left fun x hx=>hρ x (by simp[Op.operands,Call.operands];right;simpa using hx)
 rw[←h1,←h2];exact hr
theorem Ck {P:Program}{strict hcall:Bool}{nid:Option Nat}{op:Op}{ρ ρ':Operand→AV}(hρ:∀ x∈op.operands,ρ x=ρ' x){h h':List AO}{v:AV}(he:Qq P tok strict hcall nid op ρ h v h'):Qq P tok strict hcall nid op ρ' h v h':=by
 rcases he with he |he
 ·exact .inl (by rw[←Ye hρ];exact he)
 ·exact .inr (OJ hρ he)
theorem VF {s:AS}{d:Option Nat}{v:AV}{hh:List AO}{x:Operand}(hx:∀i,d=some i→x≠.tmp i):(({ s with h:=hh }:AS).putO d v).ev x=s.ev x:=by
 cases d with
 |none=>cases x <;> rfl
 |some i =>
  cases x with
  |tmp t =>
   have:t≠i:=fun e=>hx i rfl (by rw[e])
   show(({ s with h:=hh }:AS).put i v).get t=s.get t;rw[GA,if_neg (fun e=>this e.1)];rfl
  |_=>rfl
theorem Aj {all:Array Oper}{o:Oper}{s:AS}{d:Option Nat}{v:AV}{hh:List AO}(hd:∀i,d=some i→i∉o.looksAt all):∀x∈o.op.operands,(({ s with h:=hh }:AS).putO d v).ev x=s.ev x:=by
 intro x hx;refine VF fun i hi e=>hd i hi ?_
 subst e;unfold Oper.looksAt;exact List.mem_append_left _ (List.mem_filterMap.2 ⟨.tmp i,by simpa using hx,rfl⟩)
theorem KY {all:Array Oper}{o:Oper}{s:AS}{d:Option Nat}{v:AV}{hh:List AO}(hd:∀i,d=some i→i∉o.looksAt all):gval all (({ s with h:=hh }:AS).putO d v) o=gval all s o:=by
 unfold gval;cases hg:o.guard with
 |none=>rfl
 |some q =>
  obtain⟨j,w⟩:=q;simp only;cases ho:(all[j]?).bind (·.dst)with
  |none=>rfl
  |some t =>
   simp only;have:(({ s with h:=hh }:AS).putO d v).get t=s.get t:=by
    cases d with
    |none=>rfl
    |some i =>
     have hne:t≠i:=fun e=>hd i rfl (by unfold Oper.looksAt;simp[hg,ho,e])
     show(({ s with h:=hh }:AS).put i v).get t=s.get t;rw[GA,if_neg (fun e=>hne e.1)];rfl
   rw[this]
theorem Aa (s:AS)(d:Option Nat)(v:AV)(hh:List AO):({ (s.putO d v)with h:=hh }:AS)=({ s with h:=hh }:AS).putO d v:=by
 cases d with
 |none=>rfl
 |some i=>simp only[AS.putO];unfold AS.put;simp only;split <;> rfl
theorem EV {s:AS}{d e:Option Nat}{v u:AV}{h1 h2 k1:List AO}(hne:∀i,d=some i→e≠some i) :
  AS.eqv (({ (({ s with h:=h1 }:AS).putO d v)with h:=h2 }:AS).putO e u) (({ (({ s with h:=k1 }:AS).putO e u)with h:=h2 }:AS).putO d v):=by
 rw[Aa,Aa];show AS.eqv ((({ s with h:=h2 }:AS).putO d v).putO e u) ((({ s with h:=h2 }:AS).putO e u).putO d v);generalize ({ s with h:=h2 }:AS)=t;cases d with
 |none=>exact .rfl' _
 |some i0 =>
  cases e with
  |none=>exact .rfl' _
  |some j0 =>
   have hij:i0≠j0:=fun e=>hne i0 rfl (by rw[e])
   refine⟨by simp[AS.putO,UC],by simp[AS.putO,Wh],by simp[AS.putO,Pa],by simp[AS.putO],fun i=>?_⟩;simp only[AS.putO,GA,UC,Pa];by_cases h1:i=j0
   ·subst h1
    simp[Ne.symm hij]
   ·simp[h1]
theorem Hi {P:Program}{strict hcall:Bool}{nid:Option Nat}{op:Op}{ρ:Operand→AV}{h h':List AO}{v:AV}(he:Qq P tok strict hcall nid op ρ h v h'){id:Nat}(hu:h[id]?=some .unborn)(hne:nid≠some id):h'[id]?=some .unborn:=by
 by_cases hc:∀f args ts,op≠.call { callee:=.value f,args:=args,argTypes:=ts }
 ·exact(Rb (ob:=.dead) he hu hne (.inr (.inr (.inr hc)))).2
 ·rcases he with he | ⟨f,args,ts,rfl,g,caps,hf,hrel⟩
  ·exfalso
   refine hc fun f args ts e=>?_
   subst e;simp[QU]at he
  ·rcases hrel with⟨_,_,_,_,rfl⟩ | ⟨_,_,_,_,_,rfl⟩ | ⟨_,_,_,E,_,rfl,_,_,hub⟩
   ·exact hu
   ·exact hu
   ·exact hub id hu
def Iw:Op→Bool
 | .call { callee:=.value _,.. }=>true
 |_=>false
def CF:Op→Option Nat
 | .call c=>match c.callee with
  | .builtin .append=>match c.args.toList with
   | [.tmp t,_]=>some t
   |_=>none
  |_=>none
 |_=>none
theorem BD {op:Op}{t:Nat}(h:CF op=some t):∃y ts,op=.call { callee:=.builtin .append,args:=#[.tmp t,y],argTypes:=ts }:=by
 cases op <;> simp only[CF]at h <;> try(cases h;done)
 rename_i c;obtain⟨callee,args,ts⟩:=c;simp only at h
 split at h
 ·split at h
  ·rename_i t' y he
   cases h;refine⟨y,ts,?_⟩;obtain rfl:args=#[.tmp t,y]:=by rw[←Array.toArray_toList (xs:=args),he]
   rfl
  ·cases h
 ·cases h
def mL (s:Bool)(op:Op):Bool:=!(s && Ht op)
theorem Ha {s:Bool}{op:Op}(h:mL s op=true)(hs:s=true):Ht op=false:=by
 subst hs
 simpa [mL]using h
def oU (strict:Nat→Bool)(all:Array Oper)(m t:Nat):Bool:=match all[m]? with
 |some o=>Ht o.op && !strict m && o.guard.isNone && o.dst == some t && (List.range all.size).all fun q=>q == m || (match all[q]? with |some o'=>!(o'.dst == some t) |none=>true)
 |none=>false
def CN (strict:Nat→Bool)(all:Array Oper)(oi:Oper):Bool:=match CF oi.op with
 |some t=>oi.after.any fun e=>Region.binds .any e && oU strict all e.on t
 |none=>false
def Mv (a:AV):Prop:=(∃n m f t,a=.sl n m f t)∨a=.any
def Iq (strict:Nat→Bool)(all:Array Oper)(i:Nat)(s:AS):Prop:=∀oi,all[i]?=some oi→CN strict all oi=true→∀t,CF oi.op=some t→Mv (s.get t)
def lu:Op→Option Operand
 | .store _ a _=>some a
 |_=>none
theorem SK {op:Op}{a:Operand}(h:lu op=some a):∃t x,op=.store t a x:=by
 cases op <;> simp only[lu]at h <;> try(cases h;done)
 cases h;exact⟨_,_,rfl⟩
def Dl (strict:Nat→Bool)(fj fi sj si hcall:Bool)(all:Array Oper)(oj oi:Oper):Bool :=
  oj.apart all oi && mL sj oj.op && mL si oi.op &&
    (Qx hcall oj.op == 0 || Qx hcall oi.op == 0 || (Qx hcall oj.op == 1 && Qx hcall oi.op == 1) || (Qx hcall oi.op == 2 && (sj || !Iw oj.op)) ||
     (si && Qx hcall oi.op == 1 && (Qx hcall oj.op == 2 || Qx hcall oj.op == 3)) || (sj && Qx hcall oj.op == 1 && Qx hcall oi.op == 3) || (BT oj.op && CN strict all oi) || (BT oi.op && (CF oj.op).isSome) || (fj && fi && BT oj.op && ((CF oi.op).isSome || (lu oi.op).isSome)))
theorem Ea {op:Op}(h:BT op=true):∃t a,op=.load t a:=by
 cases op <;> simp[BT]at h;exact⟨_,_,rfl⟩
theorem IZ {P:Program}{strict:Bool}{t:TypeId}{a v:AV}{h r:List AO}(hl:Qm P strict t a h=some v):Qm P strict t a (h ++ r)=some v:=by
 unfold Qm at hl ⊢;cases hd:Cc P t with
 |none=>simp[hd]at hl
 |some kk =>
  simp only[hd]at hl ⊢;cases ha:a with
  |ptr m f off=>simpa [ha]using hl
  |ref id ver off =>
   simp only[ha]at hl ⊢;cases hh:h[id]? with
   |none=>simp[hh]at hl
   |some o =>
    have:(h ++ r)[id]?=some o:=by rw[List.getElem?_append_left (List.getElem?_eq_some_iff.1 hh).1];exact hh
    rw[this]
    simpa [hh]using hl
  |_=>simp[ha]at hl
theorem AW {α:Type}{p:Prop}{x:Option α}{v:α}(h:Q4 p x=some v):x=some v:=by
 unfold Q4 at h
 split at h
 ·exact h
 ·cases h
theorem OB {P:Program}{t:TypeId}{x y v:AV}{h h':List AO}(hx:Mv x)(he:QG P t x y h=some (v,h')):∃r,h'=h ++ r:=by
 unfold QG at he;cases h1:At P t with
 |none=>simp[h1]at he
 |some e =>
  obtain⟨e1,s,b⟩:=e;simp only[h1]at he;cases h2:D6 s y h with
  |none=>simp[h2]at he
  |some q =>
   obtain⟨m,g⟩:=q;simp only[h2]at he;rcases hx with⟨n,k,f,q,rfl⟩ |rfl
   ·cases q
    ·simp at he
    ·simp only at he
     split at he
     ·cases he;exact⟨[],by simp⟩
     have:=AW he;cases this;exact⟨_,rfl⟩
   ·simp at he
theorem H9 {P:Program}{t t':TypeId}{x y v:AV}{h h':List AO}(he:JQ P t t' x y h=some (v,h')):(∃r,h'=h ++ r)∨∃b ver es off n v k f k' f',x=.osl b ver es off n∧h[b]?=some (.row v k f)∧h'=h.set b (.row (v+1) k' f'):=by
 unfold JQ at he
 split at he
 ·split at he
  ·have:=AW he
   cases this;exact .inl ⟨_,rfl⟩
  ·cases he
 ·split at he
  ·split at he
   ·cases he;exact .inl ⟨[],by simp⟩
   ·have:=AW he
    cases this;exact .inl ⟨_,rfl⟩
  ·cases he
 ·split at he
  ·split at he
   ·rename_i ho
    split at he
    ·cases he;exact .inl ⟨[],by simp⟩
    ·have:=AW he
     cases this;exact .inr ⟨_,_,_,_,_,_,_,_,_,_,rfl,ho,rfl⟩
   ·cases he
  ·cases he
 ·cases he
theorem PP {P:Program}{t t':TypeId}{x y v:AV}{h h':List AO}(hx:Mv x)(he:JQ P t t' x y h=some (v,h')):∃r,h'=h ++ r:=by
 rcases H9 he with h1 | ⟨b,ver,es,off,n,v,k,f,k',f',rfl,_⟩
 ·exact h1
 ·rcases hx with⟨_,_,_,_,h⟩ |h <;> cases h
theorem TN {P:Program}{t t':TypeId}{x y v:AV}{h h':List AO}(he:JQ P t t' x y h=some (v,h')):(∃r,h'=h ++ r)∨∃b ver es off n ob,x=.osl b ver es off n∧h'=h.set b ob:=by
 rcases H9 he with h1 | ⟨b,ver,es,off,n,v,k,f,k',f',h1,h2,h3⟩
 ·exact .inl h1
 ·exact .inr ⟨b,ver,es,off,n,_,h1,h3⟩
theorem bI {P:Program}{sj si hcall:Bool}{nj ni:Option Nat}{oj oi:Op}{ρ:Operand→AV}{h h1 h2:List AO}{vj vi:AV}{t:Nat}
  (hl:BT oj=true) (hx:CF oi=some t) (hsl:Mv (ρ (.tmp t))) (hj:Qq P tok sj hcall nj oj ρ h vj h1) (hi:Qq P tok si hcall ni oi ρ h1 vi h2) :
  Qq P tok si hcall ni oi ρ h vi h2∧Qq P tok sj hcall nj oj ρ h2 vj h2∧∃r,h2=h ++ r:=by
 obtain⟨tl,al,rfl⟩:=Ea hl;obtain⟨y,ts,rfl⟩:=BD hx;have hj':Qm P sj tl (ρ al) h=some vj∧h1=h:=by
  rcases hj with he |he
  ·replace he:(Qm P sj tl (ρ al) h).map (fun v=>(v,h))=some (vj,h1):=he
   cases hv:Qm P sj tl (ρ al) h with
   |none=>simp[hv]at he
   |some x=>simp[hv]at he;exact⟨by rw[he.1],he.2.symm⟩
  ·obtain⟨f,args,ts,e⟩:=J0 he;cases e
 obtain⟨hv,rfl⟩:=hj';have hr:∃r,h2=h1 ++ r:=by
  rcases hi with he |he
  ·replace he:(match ts.toList with
    | [t1,t2]=>if t1=t2 then QG P t1 (ρ (.tmp t)) (ρ y) h1 else JQ P t1 t2 (ρ (.tmp t)) (ρ y) h1
    |_=>none)=some (vi,h2):=by
    have e:QU P si ni (.call { callee:=.builtin .append,args:=#[.tmp t,y],argTypes:=ts }) ρ h1=(match ts.toList with
     | [t1,t2]=>if t1=t2 then QG P t1 (ρ (.tmp t)) (ρ y) h1 else JQ P t1 t2 (ρ (.tmp t)) (ρ y) h1
     |_=>none):=by
     show(match ([.tmp t,y]:List Operand),ts.toList with
      | [x,y],[t,t']=>if t=t' then QG P t (ρ x) (ρ y) h1 else JQ P t t' (ρ x) (ρ y) h1
      |_,_=>none)=_
     match ts.toList with
     | []=>rfl
     | [_]=>rfl
     | [_,_]=>rfl
     |_ :: _ :: _ :: _=>rfl
    rw[←e];exact he
   split at he
   ·split at he
    ·exact OB hsl he
    ·exact PP hsl he
   ·cases he
  ·obtain⟨f,args,ts,e⟩:=J0 he;cases e
 obtain⟨r,rfl⟩:=hr;refine⟨hi,.inl ?_,r,rfl⟩;show(Qm P sj tl (ρ al) (h1 ++ r)).map (fun v=>(v,h1 ++ r))=_;rw[IZ hv];rfl
theorem pa {P:Program}{sj si hcall:Bool}{nj ni:Option Nat}{oj oi:Op}{ρj ρi:Operand→AV}{h h1 h2:List AO}{vj vi:AV}
    (hj:Qq P tok sj hcall nj oj ρj h vj h1) (hi:Qq P tok si hcall ni oi ρi h1 vi h2)
    (uj:∀id,nj=some id→h[id]?=some .unborn) (ui:∀id,ni=some id→h[id]?=some .unborn) (hne:∀id,nj=some id→ni≠some id) (cj:nj≠none→Qx hcall oj=2) (ci:ni≠none→Qx hcall oi=2) (ci2:Qx hcall oi=2→ni≠none)
    (bj:sj=true→Ht oj=false) (bi:si=true→Ht oi=false) (hm:Qx hcall oj=0∨Qx hcall oi=0∨(Qx hcall oj=1∧Qx hcall oi=1)∨(Qx hcall oi=2∧(sj=true∨Iw oj=false)) ∨
     (si=true∧Qx hcall oi=1∧(Qx hcall oj=2∨Qx hcall oj=3))∨(sj=true∧Qx hcall oj=1∧Qx hcall oi=3)) :
    ∃k1,Qq P tok si hcall ni oi ρi h vi k1∧Qq P tok sj hcall nj oj ρj k1 vj h2∧∀id,nj=some id→k1[id]?=some .unborn:=by
  have fin:∀k1,Qq P tok si hcall ni oi ρi h vi k1→∀id,nj=some id→k1[id]?=some .unborn:=fun k1 he id hid=>Hi he (uj id hid) (hne id hid)
  rcases hm with hm |hm | ⟨hm1,hm2⟩ | ⟨hm1,hm2⟩ | ⟨hs,hm1,hm2⟩ | ⟨hs,hm1,hm2⟩
  · obtain⟨rfl,hk⟩:=fT hm bj hj;exact⟨h2,hi,hk h2,fin _ hi⟩
  · obtain⟨rfl,hk⟩:=fT hm bi hi;exact⟨h,hk h,hj,fin _ (hk h)⟩
  · obtain⟨rfl,_⟩:=YL hm1 hj;obtain⟨rfl,_⟩:=YL hm2 hi;exact⟨_,hi,hj,fin _ hi⟩
  · obtain⟨id,rfl⟩:=Option.ne_none_iff_exists'.1 (ci2 hm1);obtain⟨ob,hob,rfl,hk⟩:=wc hm1 hi;refine⟨h.set id ob,hk h,(Rb hj (ui id rfl) (fun e=>hne id e rfl) ?_).1,fin _ (hk h)⟩;rcases hm2 with hm2 |hm2
    · exact .inl hm2
    · right;right;right;rintro f args ts rfl;simp[Iw]at hm2
  · obtain⟨rfl,hk⟩:=YL hm1 hi;have hcon:=fU hj uj;have:=hk hs h (fun id v n f e=>(hcon id v n f).2 e);exact⟨h,this,hj,fin _ this⟩
  · obtain⟨rfl,hk⟩:=YL hm1 hj;have hcon:=fU hi ui;exact⟨h2,hi,hk hs h2 (fun id v n f e=>(hcon id v n f).1 e),fin _ hi⟩
def Of (h h':List AO):Prop:=(∃r,h'=h ++ r)∨∃ (id ver k:Nat) (f:Nat→AV) (k':Nat) (f':Nat→AV),h[id]?=some (.row ver k f)∧h'=h.set id (.row (ver+1) k' f')
theorem TK {P:Program}{t:TypeId}{x y v:AV}{h h':List AO}(he:QG P t x y h=some (v,h')):Of h h':=by
 unfold QG at he;cases h1:At P t with
 |none=>simp[h1]at he
 |some e =>
  obtain⟨e1,s,b⟩:=e;simp only[h1]at he;cases h2:D6 s y h with
  |none=>simp[h2]at he
  |some q =>
   obtain⟨m,g⟩:=q;simp only[h2]at he;cases x with
   |osl id ver es off n =>
    simp only at he;cases ho:h[id]? with
    |none=>simp[ho]at he
    |some o =>
     cases o with
     |row v0 k f =>
      simp only[ho]at he;have:=AW he;cases this;exact .inr ⟨id,v0,k,f,_,_,ho,rfl⟩
     |_=>simp[ho]at he
   |sl n k f q =>
    cases q
    ·simp at he
    ·simp only at he
     split at he
     ·cases he;exact .inl ⟨[],by simp⟩
     have:=AW he;cases this;exact .inl ⟨_,rfl⟩
   |_=>simp at he
theorem Vk {P:Program}{strict hcall:Bool}{nid:Option Nat}{op:Op}{ρ:Operand→AV}{h h':List AO}{v:AV}(hx:(CF op).isSome=true) (he:Qq P tok strict hcall nid op ρ h v h'):Of h h':=by
 obtain⟨t,ht⟩:=Option.isSome_iff_exists.1 hx;obtain⟨y,ts,rfl⟩:=BD ht;rcases he with he |he
 ·replace he:(match ts.toList with
   | [t1,t2]=>if t1=t2 then QG P t1 (ρ (.tmp t)) (ρ y) h else JQ P t1 t2 (ρ (.tmp t)) (ρ y) h
   |_=>none)=some (v,h'):=by
   have e:QU P strict nid (.call { callee:=.builtin .append,args:=#[.tmp t,y],argTypes:=ts }) ρ h=(match ts.toList with
    | [t1,t2]=>if t1=t2 then QG P t1 (ρ (.tmp t)) (ρ y) h else JQ P t1 t2 (ρ (.tmp t)) (ρ y) h
    |_=>none):=by
    show(match ([.tmp t,y]:List Operand),ts.toList with
     | [x,y],[t,t']=>if t=t' then QG P t (ρ x) (ρ y) h else JQ P t t' (ρ x) (ρ y) h
     |_,_=>none)=_
    match ts.toList with
    | []=>rfl
    | [_]=>rfl
    | [_,_]=>rfl
    |_ :: _ :: _ :: _=>rfl
   rw[←e];exact he
  split at he
  ·split at he
   ·exact TK he
   ·rcases H9 he with h1 | ⟨b,ver,es,off,n,v,k,f,k',f',_,h2,h3⟩
    ·exact .inl h1
    ·exact .inr ⟨_,_,_,_,_,_,h2,h3⟩
  ·cases he
 ·obtain⟨f,args,ts,e⟩:=J0 he;cases e
def AddrV (h:List AO)(a:AV):Prop:=∀id ver off,a=.ref id ver off→(∃v,inf h id=some v∧ver≤v)∨h[id]?=some .dead
def Oe (all:Array Oper)(i:Nat)(s:AS):Prop:=∀oi t x,all[i]?=some oi→oi.op=.load t x→AddrV s.h (s.ev x)
theorem AddrV.app {h h':List AO}{a:AV}(ha:AddrV h a)(he:Of h h'):AddrV h' a:=by
 rintro id ver off rfl;have hlt:id<h.length:=by
  rcases ha id ver off rfl with⟨v,hv,_⟩ |hd
  ·unfold inf at hv
   cases ho:h[id]? with
   |none=>simp[ho]at hv
   |some o=>exact(List.getElem?_eq_some_iff.1 ho).1
  ·exact(List.getElem?_eq_some_iff.1 hd).1
 rcases he with⟨r,rfl⟩ | ⟨b,vb,k,f,k',f',hb,rfl⟩
 ·have e:(h ++ r)[id]?=h[id]?:=List.getElem?_append_left hlt
  unfold inf;rw[e];exact ha id ver off rfl
 ·by_cases hi:b=id
  ·subst hi
   rcases ha b ver off rfl with⟨v,hv,hle⟩ |hd
   ·left
    refine⟨vb+1,by unfold inf;rw[List.getElem?_set_self hlt];rfl,?_⟩;unfold inf at hv;rw[hb]at hv;cases hv;omega
   ·rw[hb]at hd;cases hd
  ·unfold inf
   rw[List.getElem?_set_ne hi];exact ha id ver off rfl
theorem Yb {P:Program}{strict:Bool}{t:TypeId}{a v:AV}{h h':List AO}(ha:AddrV h a)(he:Of h h')(hl:Qm P strict t a h'=some v):Qm P strict t a h=some v:=by
 unfold Qm at hl ⊢;cases hd:Cc P t with
 |none=>simp[hd]at hl
 |some kk =>
  simp only[hd]at hl ⊢;cases a with
  |ptr m f off=>simpa using hl
  |ref id ver off =>
   simp only at hl ⊢;have hlt:id<h.length:=by
    rcases ha id ver off rfl with⟨v,hv,_⟩ |hd
    ·unfold inf at hv
     cases ho:h[id]? with
     |none=>simp[ho]at hv
     |some o=>exact(List.getElem?_eq_some_iff.1 ho).1
    ·exact(List.getElem?_eq_some_iff.1 hd).1
   rcases he with⟨r,rfl⟩ | ⟨b,vb,k,f,k',f',hb,rfl⟩
   ·rw[List.getElem?_append_left hlt]at hl;exact hl
   ·by_cases hi:b=id
    ·subst hi
     rw[List.getElem?_set_self hlt]at hl;simp only at hl;exfalso;unfold Q4 at hl
     split at hl
     ·rename_i hc
      rcases ha b ver off rfl with⟨v,hv,hle⟩ |hd
      ·unfold inf at hv
       rw[hb]at hv;cases hv;omega
      ·rw[hb]at hd;cases hd
     ·cases hl
    ·rw[List.getElem?_set_ne hi]at hl;exact hl
  |_=>simp at hl
theorem p9 {P:Program}{sj si hcall:Bool}{nj ni:Option Nat}{oj oi:Op}{ρ:Operand→AV}{h h1 h2:List AO}{vj vi:AV}{tl:TypeId}{al:Operand}
  (hl:oi=.load tl al) (hx:(CF oj).isSome=true) (ha:AddrV h (ρ al)) (hj:Qq P tok sj hcall nj oj ρ h vj h1) (hi:Qq P tok si hcall ni oi ρ h1 vi h2) :
  Qq P tok si hcall ni oi ρ h vi h∧h2=h1:=by
 subst hl;have happ:=Vk hx hj;rcases hi with he |he
 ·replace he:(Qm P si tl (ρ al) h1).map (fun v=>(v,h1))=some (vi,h2):=he
  cases hv:Qm P si tl (ρ al) h1 with
  |none=>simp[hv]at he
  |some x =>
   simp[hv]at he;obtain⟨rfl,rfl⟩:=he;refine⟨.inl ?_,rfl⟩;show(Qm P si tl (ρ al) h).map (fun v=>(v,h))=_;rw[Yb ha happ hv];rfl
 ·obtain⟨f,args,ts,e⟩:=J0 he;cases e
def GT (all:Array Oper)(fl:Nat→Bool)(T:Nat→Prop)(i:Nat)(s:AS):Prop:=fl i=true→∀oi,all[i]?=some oi →
 (∀tl al,oi.op=.load tl al→∀o va off,s.ev al=.ref o va off→T o)∧(∀tx,CF oi.op=some tx→∀b ver es off n,s.get tx=.osl b ver es off n→¬T b)∧(∀a,lu oi.op=some a→∀o va off,s.ev a=.ref o va off→¬T o)
theorem PK {P:Program}{t:TypeId}{x y v:AV}{h h':List AO}(he:QG P t x y h=some (v,h')):(∃r,h'=h ++ r)∨∃b ver es off n ob,x=.osl b ver es off n∧h'=h.set b ob:=by
 unfold QG at he;cases h1:At P t with
 |none=>simp[h1]at he
 |some e =>
  obtain⟨e1,s,b⟩:=e;simp only[h1]at he;cases h2:D6 s y h with
  |none=>simp[h2]at he
  |some q =>
   obtain⟨m,g⟩:=q;simp only[h2]at he;cases x with
   |osl id ver es off n =>
    simp only at he;cases ho:h[id]? with
    |none=>simp[ho]at he
    |some o =>
     cases o with
     |row v0 k f =>
      simp only[ho]at he;have:=AW he;cases this;exact .inr ⟨id,ver,es,off,n,_,rfl,rfl⟩
     |_=>simp[ho]at he
   |sl n k f q =>
    cases q
    ·simp at he
    ·simp only at he
     split at he
     ·cases he;exact .inl ⟨[],by simp⟩
     have:=AW he;cases this;exact .inl ⟨_,rfl⟩
   |_=>simp at he
theorem eE {P:Program}{strict hcall:Bool}{nid:Option Nat}{op:Op}{ρ:Operand→AV}{h h':List AO}{v:AV}{t:Nat}(ht:CF op=some t)(he:Qq P tok strict hcall nid op ρ h v h') :
  (∃r,h'=h ++ r)∨∃b ver es off n ob,ρ (.tmp t)=.osl b ver es off n∧h'=h.set b ob:=by
 obtain⟨y,ts,rfl⟩:=BD ht;rcases he with he |he
 ·replace he:(match ts.toList with
   | [t1,t2]=>if t1=t2 then QG P t1 (ρ (.tmp t)) (ρ y) h else JQ P t1 t2 (ρ (.tmp t)) (ρ y) h
   |_=>none)=some (v,h'):=by
   have e:QU P strict nid (.call { callee:=.builtin .append,args:=#[.tmp t,y],argTypes:=ts }) ρ h=(match ts.toList with
    | [t1,t2]=>if t1=t2 then QG P t1 (ρ (.tmp t)) (ρ y) h else JQ P t1 t2 (ρ (.tmp t)) (ρ y) h
    |_=>none):=by
    show(match ([.tmp t,y]:List Operand),ts.toList with
     | [x,y],[t,t']=>if t=t' then QG P t (ρ x) (ρ y) h else JQ P t t' (ρ x) (ρ y) h
     |_,_=>none)=_
    match ts.toList with
    | []=>rfl
    | [_]=>rfl
    | [_,_]=>rfl
    |_ :: _ :: _ :: _=>rfl
   rw[←e];exact he
  split at he
  ·split at he
   ·exact PK he
   ·exact TN he
  ·cases he
 ·obtain⟨f,args,ts,e⟩:=J0 he;cases e
theorem Ng {P:Program}{strict:Bool}{t:TypeId}{a v:AV}{h:List AO}{b:Nat}{ob:AO}(hl:Qm P strict t a h=some v)(hb:∀o va off,a=.ref o va off→o≠b):Qm P strict t a (h.set b ob)=some v:=by
 unfold Qm at hl ⊢;cases hd:Cc P t with
 |none=>simp[hd]at hl
 |some kk =>
  simp only[hd]at hl ⊢;cases a with
  |ptr m f off=>simpa using hl
  |ref id ver off =>
   simp only at hl ⊢;rw[List.getElem?_set_ne (Ne.symm (hb id ver off rfl))];exact hl
  |_=>simp at hl
theorem vD {P:Program}{sj si hcall:Bool}{nj ni:Option Nat}{oj oi:Op}{ρ:Operand→AV}{h h1 h2:List AO}{vj vi:AV}{T:Nat→Prop}{t:Nat}{tl:TypeId}{al:Operand}
  (hl:oj=.load tl al) (hx:CF oi=some t) (g1:∀o va off,ρ al=.ref o va off→T o) (g2:∀b ver es off n,ρ (.tmp t)=.osl b ver es off n→¬T b) (hj:Qq P tok sj hcall nj oj ρ h vj h1) (hi:Qq P tok si hcall ni oi ρ h1 vi h2) :
  Qq P tok si hcall ni oi ρ h vi h2∧Qq P tok sj hcall nj oj ρ h2 vj h2:=by
 subst hl;have hj':Qm P sj tl (ρ al) h=some vj∧h1=h:=by
  rcases hj with he |he
  ·replace he:(Qm P sj tl (ρ al) h).map (fun v=>(v,h))=some (vj,h1):=he
   cases hv:Qm P sj tl (ρ al) h with
   |none=>simp[hv]at he
   |some x=>simp[hv]at he;exact⟨by rw[he.1],he.2.symm⟩
  ·obtain⟨f,args,ts,e⟩:=J0 he;cases e
 obtain⟨hv,rfl⟩:=hj';have hload:Qm P sj tl (ρ al) h2=some vj:=by
  rcases eE hx hi with⟨r,rfl⟩ | ⟨b,ver,es,off,n,ob,e1,rfl⟩
  ·exact IZ hv
  ·exact Ng hv fun o va off' e=>by
    rintro rfl;exact g2 _ _ _ _ _ e1 (g1 _ _ _ e)
 refine⟨hi,.inl ?_⟩;show(Qm P sj tl (ρ al) h2).map (fun v=>(v,h2))=_;rw[hload];rfl
theorem vw {P:Program}{sj si hcall:Bool}{nj ni:Option Nat}{oj oi:Op}{ρ:Operand→AV}{h h1 h2:List AO}{vj vi:AV}{T:Nat→Prop}{a:Operand}{tl:TypeId}{al:Operand}
  (hl:oj=.load tl al) (hx:lu oi=some a) (g1:∀o va off,ρ al=.ref o va off→T o) (g2:∀o va off,ρ a=.ref o va off→¬T o) (hj:Qq P tok sj hcall nj oj ρ h vj h1) (hi:Qq P tok si hcall ni oi ρ h1 vi h2) :
  Qq P tok si hcall ni oi ρ h vi h2∧Qq P tok sj hcall nj oj ρ h2 vj h2:=by
 subst hl;have hj':Qm P sj tl (ρ al) h=some vj∧h1=h:=by
  rcases hj with he |he
  ·replace he:(Qm P sj tl (ρ al) h).map (fun v=>(v,h))=some (vj,h1):=he
   cases hv:Qm P sj tl (ρ al) h with
   |none=>simp[hv]at he
   |some x=>simp[hv]at he;exact⟨by rw[he.1],he.2.symm⟩
  ·obtain⟨f,args,ts,e⟩:=J0 he;cases e
 obtain⟨hv,rfl⟩:=hj';obtain⟨tt,x,rfl⟩:=SK hx;have hload:Qm P sj tl (ρ al) h2=some vj:=by
  rcases hi with he |he
  ·replace he:(KU P si tt (ρ a) (ρ x) h1).map (fun h=>(XO,h))=some (vi,h2):=he
   cases hs:KU P si tt (ρ a) (ρ x) h1 with
   |none=>simp[hs]at he
   |some k =>
    simp[hs]at he;obtain⟨_,rfl⟩:=he;unfold KU at hs
    split at hs
    ·rename_i id ver off hra
     split at hs
     ·rw[←AW hs |> Option.some.inj]
      exact Ng hv fun o va off' e=>by
       rintro rfl;exact g2 _ _ _ hra (g1 _ _ _ e)
     ·cases hs
    ·cases hs
  ·obtain⟨f,args,ts,e⟩:=J0 he;cases e
 refine⟨hi,.inl ?_⟩;show(Qm P sj tl (ρ al) h2).map (fun v=>(v,h2))=_;rw[hload];rfl
theorem Rg {P:Program}{strict:Nat→Bool}{hcall:Bool}{nid:Nat→Option Nat}{all:Array Oper}{j:Nat}{s s1:AS}{oj oi:Oper}(hj:all[j]?=some oj)(h:GStep P tok strict hcall nid all j s s1)(ha:∀d,oj.dst=some d→d∉oi.looksAt all):∀x∈oi.op.operands,s1.ev x=s.ev x:=by
 intro x hx;obtain⟨o,ho,h⟩:=h;rw[hj]at ho;cases ho;rcases h with⟨_,_,v,h',_,rfl⟩ | ⟨_,rfl⟩
 ·exact Aj ha x hx
 ·exact Aj (s:=s) (hh:=s.h) (v:=XO) ha x hx
theorem GT.move {all:Array Oper}{fl:Nat→Bool}{T:Nat→Prop}{i:Nat}{s t:AS}{oi:Oper}(hi:all[i]?=some oi)(h:∀ x∈oi.op.operands,t.ev x=s.ev x)(g:GT all fl T i s):GT all fl T i t:=by
 intro hf oi' hoi';rw[hi]at hoi';cases hoi';obtain⟨g1,g2,g3⟩:=g hf oi hi;refine⟨fun tl al e o va off hv=>g1 tl al e o va off ?_,fun tx e b ver es off n hv=>g2 tx e b ver es off n ?_,fun a e o va off hv=>g3 a e o va off ?_⟩
 ·rw[←h al (by rw[e];simp[Op.operands])];exact hv
 ·obtain⟨y,ts,he⟩:=BD e
  have:=h (.tmp tx) (by rw[he];simp[Op.operands,Call.operands]);rw[←show s.ev (.tmp tx)=s.get tx from rfl,←this];exact hv
 ·obtain⟨tt,x,he⟩:=SK e
  rw[←h a (by rw[he];simp[Op.operands])];exact hv
def AExecT (P:Program)(tok:List Tok)(strict:Nat→Bool)(hcall:Bool)(nid:Nat→Option Nat)(all:Array Oper)(fl:Nat→Bool)(T:Nat→Prop):List Nat→AS→AS→Prop
 | [],s,s'=>s'=s
 |i :: l,s,s'=>GT all fl T i s∧∃s1,GStep P tok strict hcall nid all i s s1∧AExecT P tok strict hcall nid all fl T l s1 s'
theorem AExec.toT {P:Program}{strict:Nat→Bool}{hcall:Bool}{nid:Nat→Option Nat}{all:Array Oper}{fl:Nat→Bool}{T:Nat→Prop}(hf:∀i,fl i=false):∀ {l:List Nat} {s s':AS},AExec P tok strict hcall nid all l s s'→AExecT P tok strict hcall nid all fl T l s s'
 | [],_,_,h=>h
 |i :: _,_,_,⟨s1,h1,h2⟩=>⟨fun e=>(by rw[hf i]at e;cases e),s1,h1,h2.toT hf⟩
theorem AExecT.eqv {P:Program}{strict:Nat→Bool}{hcall:Bool}{nid:Nat→Option Nat}{all:Array Oper}{fl:Nat→Bool}{T:Nat→Prop}:∀ {l:List Nat} {s s' t:AS},AExecT P tok strict hcall nid all fl T l s s'→s.eqv t→∃t',AExecT P tok strict hcall nid all fl T l t t'∧s'.eqv t'
 | [],s,s',t,h,he=>by cases h;exact⟨t,rfl,he⟩
 |i :: l,s,s',t,⟨h0,s1,h1,h2⟩,he=>by
  obtain⟨t1,g1,e1⟩:=h1.eqv he;obtain⟨t',g2,e2⟩:=AExecT.eqv h2 e1;obtain⟨oi,hoi,_⟩:=h1;exact⟨t',⟨h0.move hoi fun x _=>(he.ev x).symm,t1,g1,g2⟩,e2⟩
theorem v6 {P:Program}{fl:Nat→Bool}{T:Nat→Prop}{strict:Nat→Bool}{hcall:Bool}{nid:Nat→Option Nat}{all:Array Oper}{i j:Nat}{s s1 s2:AS}(hn:∀i o,all[i]?=some o→(nid i≠none↔Qx hcall o.op=2))
    (hinj:∀id,nid j=some id→nid i≠some id) (hij:∀oj oi,all[j]?=some oj→all[i]?=some oi→Dl strict (fl j) (fl i) (strict j) (strict i) hcall all oj oi=true)
    (ui:∀id,nid i=some id→s.h[id]?=some .unborn) (hfr:Iq strict all i s) (had:strict i=false→Oe all i s) (gj:GT all fl T j s)
    (h1:GStep P tok strict hcall nid all j s s1) (h2:GStep P tok strict hcall nid all i s1 s2) (gi:GT all fl T i s1) :
    ∃t1 t2,GStep P tok strict hcall nid all i s t1∧GStep P tok strict hcall nid all j t1 t2∧s2.eqv t2:=by
  obtain⟨oj,hoj,h1⟩:=h1;obtain⟨oi,hoi,h2⟩:=h2;have hm:=hij oj oi hoj hoi;simp only[Dl,Bool.and_eq_true,Bool.or_eq_true,beq_iff_eq]at hm;obtain⟨⟨⟨hap,hb1⟩,hb2⟩,hcls⟩:=hm;obtain⟨a1,a2,a3⟩:=Oper.apart_spec hap;have hcls':Qx hcall oj.op=0∨Qx hcall oi.op=0∨(Qx hcall oj.op=1∧Qx hcall oi.op=1)∨(Qx hcall oi.op=2∧(strict j=true∨Iw oj.op=false)) ∨
     (strict i=true∧Qx hcall oi.op=1∧(Qx hcall oj.op=2∨Qx hcall oj.op=3))∨(strict j=true∧Qx hcall oj.op=1∧Qx hcall oi.op=3)∨(BT oj.op=true∧CN strict all oi=true)∨(BT oi.op=true∧(CF oj.op).isSome=true)∨(((fl j=true∧fl i=true)∧BT oj.op=true)∧((CF oi.op).isSome=true∨(lu oi.op).isSome=true)):=by
    rcases hcls with(((((((h |h) |h) | ⟨h,h'⟩) | ⟨⟨h,h'⟩,h''⟩) | ⟨⟨h,h'⟩,h''⟩) | ⟨h,h'⟩) | ⟨h,h'⟩) |h
    · exact .inl h
    · exact .inr (.inl h)
    · exact .inr (.inr (.inl h))
    · exact .inr (.inr (.inr (.inl ⟨h,by simpa using h'⟩)))
    · exact .inr (.inr (.inr (.inr (.inl ⟨h,h',h''⟩))))
    · exact .inr (.inr (.inr (.inr (.inr (.inl ⟨h,h',h''⟩)))))
    · exact .inr (.inr (.inr (.inr (.inr (.inr (.inl ⟨h,h'⟩))))))
    · exact .inr (.inr (.inr (.inr (.inr (.inr (.inr (.inl ⟨h,h'⟩)))))))
    · exact .inr (.inr (.inr (.inr (.inr (.inr (.inr (.inr h)))))))
  have hdne:∀d,oj.dst=some d→oi.dst≠some d:=a2;have selfh:∀t:AS,({ t with h:=t.h }:AS)=t:=fun _=>rfl
  rcases h1 with⟨g1,u1,v1,h1',e1,rfl⟩ | ⟨g1,rfl⟩
  · rcases h2 with⟨g2,u2,v2,h2',e2,rfl⟩ | ⟨g2,rfl⟩
    · rw[KY (fun d hd=>a1 d hd)]at g2;have e2':Qq P tok (strict i) hcall (nid i) oi.op s.ev h1' v2 h2':=by
        have:=Ck (ρ':=s.ev) (fun x hx=>Aj (fun d hd=>a1 d hd) x hx) (show Qq P tok (strict i) hcall (nid i) oi.op _ _ v2 h2' from e2)
        simpa using this
      have e1':Qq P tok (strict j) hcall (nid j) oj.op s.ev s.h v1 h1':=e1;obtain⟨k1,f1,f2,f3⟩:∃k1,Qq P tok (strict i) hcall (nid i) oi.op s.ev s.h v2 k1∧Qq P tok (strict j) hcall (nid j) oj.op s.ev k1 v1 h2'∧∀id,nid j=some id→k1[id]?=some .unborn:=by
        have old:_→∃k1,Qq P tok (strict i) hcall (nid i) oi.op s.ev s.h v2 k1∧Qq P tok (strict j) hcall (nid j) oj.op s.ev k1 v1 h2'∧∀id,nid j=some id→k1[id]?=some .unborn :=
          fun hc=>pa e1' e2' u1 ui hinj (hn j oj hoj).1 (hn i oi hoi).1 (hn i oi hoi).2 (Ha hb1) (Ha hb2) hc
        rcases hcls' with h |h |h |h |h |h | ⟨hl,hf⟩ | ⟨hl,hf⟩ | ⟨⟨⟨hfj,hfi⟩,hl⟩,hf⟩
        · exact old (.inl h)
        · exact old (.inr (.inl h))
        · exact old (.inr (.inr (.inl h)))
        · exact old (.inr (.inr (.inr (.inl h))))
        · exact old (.inr (.inr (.inr (.inr (.inl h)))))
        · exact old (.inr (.inr (.inr (.inr (.inr h)))))
        · cases hxt:CF oi.op with
          |none=>simp[CN,hxt]at hf
          |some t =>
            obtain⟨q1,q2,r,q3⟩:=bI hl hxt (hfr oi hoi hf t hxt) e1' e2';refine⟨h2',q1,q2,fun id hid=>?_⟩;have:=u1 id hid;rw[q3,List.getElem?_append_left (List.getElem?_eq_some_iff.1 this).1];exact this
        · obtain⟨tl,al,hload⟩:=Ea hl;obtain⟨tx,htx⟩:=Option.isSome_iff_exists.1 hf;obtain⟨yx,tsx,hop⟩:=BD htx;by_cases hsi:strict i=true
          · exact old (.inr (.inr (.inr (.inr (.inl ⟨hsi,by rw[hload];rfl,.inr (by rw[hop];rfl)⟩)))))
          · obtain⟨q1,q2⟩:=p9 hload hf (had (by simpa using hsi) oi tl al hoi hload) e1' e2';subst q2;exact⟨s.h,q1,e1',u1⟩
        · obtain⟨tl,al,hload⟩:=Ea hl;have gi0:GT all fl T i s:=GT.move hoi (fun x hx=>(Aj (fun d hd=>a1 d hd) x hx).symm) gi;obtain⟨q1,q2⟩:Qq P tok (strict i) hcall (nid i) oi.op s.ev s.h v2 h2'∧Qq P tok (strict j) hcall (nid j) oj.op s.ev h2' v1 h2':=by
            rcases hf with hf |hf
            · obtain⟨tx,htx⟩:=Option.isSome_iff_exists.1 hf;exact vD hload htx ((gj hfj oj hoj).1 tl al hload) ((gi0 hfi oi hoi).2.1 tx htx) e1' e2'
            · obtain⟨a,hax⟩:=Option.isSome_iff_exists.1 hf;exact vw hload hax ((gj hfj oj hoj).1 tl al hload) ((gi0 hfi oi hoi).2.2 a hax) e1' e2'
          refine⟨h2',q1,q2,fun id hid=>?_⟩;exfalso;have:=(hn j oj hoj).1 (by rw[hid];simp);rw[hload]at this;cases this
      refine⟨({ s with h:=k1 }:AS).putO oi.dst v2,_,⟨oi,hoi,.inl ⟨g2,ui,v2,k1,f1,rfl⟩⟩,⟨oj,hoj,.inl ⟨?_,?_,v1,h2',?_,rfl⟩⟩,?_⟩
      · rw[KY (fun d hd=>a3 d hd)];exact g1
      · intro id hid;rw[putO_h];exact f3 id hid
      · have:=Ck (ρ':=(({ s with h:=k1 }:AS).putO oi.dst v2).ev) (fun x hx=>(Aj (fun d hd=>a3 d hd) x hx).symm) f2;rw[putO_h];exact this
      · exact EV hdne
    · rw[KY (fun d hd=>a1 d hd)]at g2;refine⟨s.putO oi.dst XO,_,⟨oi,hoi,.inr ⟨g2,rfl⟩⟩,⟨oj,hoj,.inl ⟨?_,?_,v1,h1',?_,rfl⟩⟩,?_⟩
      · rw[show s.putO oi.dst XO=({ s with h:=s.h }:AS).putO oi.dst XO from rfl,KY (fun d hd=>a3 d hd)];exact g1
      · intro id hid;rw[putO_h];exact u1 id hid
      · have:=Ck (ρ':=(({ s with h:=s.h }:AS).putO oi.dst XO).ev) (fun x hx=>(Aj (fun d hd=>a3 d hd) x hx).symm) (show Qq P tok (strict j) hcall (nid j) oj.op s.ev s.h v1 h1' from e1);rw[putO_h];exact this
      · have:=EV (s:=s) (d:=oj.dst) (e:=oi.dst) (v:=v1) (u:=XO) (h1:=h1') (h2:=h1') (k1:=s.h) hdne;rw[Aa]at this;exact this
  · rcases h2 with⟨g2,u2,v2,h2',e2,rfl⟩ | ⟨g2,rfl⟩
    · rw[show s.putO oj.dst XO=({ s with h:=s.h }:AS).putO oj.dst XO from rfl,KY (fun d hd=>a1 d hd)]at g2;have e2':Qq P tok (strict i) hcall (nid i) oi.op s.ev s.h v2 h2':=by
        have:=Ck (ρ':=s.ev) (fun x hx=>Aj (s:=s) (hh:=s.h) (v:=XO) (fun d hd=>a1 d hd) x hx) (show Qq P tok (strict i) hcall (nid i) oi.op _ _ v2 h2' from e2)
        simpa using this
      refine⟨({ s with h:=h2' }:AS).putO oi.dst v2,_,⟨oi,hoi,.inl ⟨g2,ui,v2,h2',e2',rfl⟩⟩,⟨oj,hoj,.inr ⟨?_,rfl⟩⟩,?_⟩
      · rw[KY (fun d hd=>a3 d hd)];exact g1
      · have:=EV (s:=s) (d:=oj.dst) (e:=oi.dst) (v:=XO) (u:=v2) (h1:=s.h) (h2:=h2') (k1:=h2') hdne;rw[Aa,Aa]at this;rw[Aa];exact this
    · rw[show s.putO oj.dst XO=({ s with h:=s.h }:AS).putO oj.dst XO from rfl,KY (fun d hd=>a1 d hd)]at g2;refine⟨s.putO oi.dst XO,_,⟨oi,hoi,.inr ⟨g2,rfl⟩⟩,⟨oj,hoj,.inr ⟨?_,rfl⟩⟩,?_⟩
      · rw[show s.putO oi.dst XO=({ s with h:=s.h }:AS).putO oi.dst XO from rfl,KY (fun d hd=>a3 d hd)];exact g1
      · have:=EV (s:=s) (d:=oj.dst) (e:=oi.dst) (v:=XO) (u:=XO) (h1:=s.h) (h2:=s.h) (k1:=s.h) hdne;rw[Aa,Aa]at this;exact this
theorem pV {P:Program}{fl:Nat→Bool}{T:Nat→Prop}{strict:Nat→Bool}{hcall:Bool}{nid:Nat→Option Nat}{all:Array Oper}{i:Nat}(hn:∀i o,all[i]?=some o→(nid i≠none↔Qx hcall o.op=2))
  (hinj:∀i j id,nid i=some id→nid j=some id→i=j):∀ (A B:List Nat) {s s':AS},
  (∀j∈A,j≠i∧∀oj oi,all[j]?=some oj→all[i]?=some oi→Dl strict (fl j) (fl i) (strict j) (strict i) hcall all oj oi=true)→(∀id,nid i=some id→s.h[id]?=some .unborn)→Iq strict all i s→(strict i=false→Oe all i s) →
  AExecT P tok strict hcall nid all fl T (A ++ i :: B) s s'→∃t1 t',GStep P tok strict hcall nid all i s t1∧GT all fl T i s∧AExecT P tok strict hcall nid all fl T (A ++ B) t1 t'∧s'.eqv t'
 | [],B,s,s',_,_,_,_,⟨h0,s1,h1,h2⟩=>⟨s1,s',h1,h0,h2,.rfl' _⟩
 |j :: A,B,s,s',hA,hu,hfr,had,⟨h0,s1,h1,h2⟩=>by
  obtain⟨hji,hmv⟩:=hA j (by simp);have hu1:∀id,nid i=some id→s1.h[id]?=some .unborn:=by
   intro id hid;obtain⟨oj,hoj,h1'⟩:=h1;rcases h1' with⟨_,_,v,h',he,rfl⟩ | ⟨_,rfl⟩
   ·rw[putO_h];exact Hi (show Qq P tok (strict j) hcall (nid j) oj.op s.ev s.h v h' from he) (hu id hid) (fun e=>hji (hinj j i id e hid))
   ·rw[putO_h];exact hu id hid
  have hfr1:Iq strict all i s1:=by
   intro oi hoi hf t ht;have h0:=hfr oi hoi hf t ht;obtain⟨oj,hoj,h1'⟩:=h1;have hm:=hmv oj oi hoj hoi;simp only[Dl,Bool.and_eq_true]at hm;obtain⟨a1,_,_⟩:=Oper.apart_spec hm.1.1.1;obtain⟨y,ts,he⟩:=BD ht;have hmem:(Operand.tmp t)∈oi.op.operands:=by rw[he];simp[Op.operands,Call.operands]
   have key:∀ (hh:List AO) v,(({ s with h:=hh }:AS).putO oj.dst v).get t=s.get t:=fun hh v=>Aj (fun d hd=>a1 d hd) _ hmem
   rcases h1' with⟨_,_,v,h',he,rfl⟩ | ⟨_,rfl⟩
   ·rw[key];exact h0
   ·have:=key s.h XO
    rw[show({ s with h:=s.h }:AS)=s from rfl]at this;rw[this];exact h0
  have had1:strict i=false→Oe all i s1:=by
   intro hsi oi tl al hoi hload;have h0:=had hsi oi tl al hoi hload;obtain⟨oj,hoj,h1'⟩:=h1;have hm:=hmv oj oi hoj hoi;simp only[Dl,Bool.and_eq_true,Bool.or_eq_true,beq_iff_eq]at hm;obtain⟨⟨⟨hap,hb1⟩,hb2⟩,hcls⟩:=hm;obtain⟨a1,_,_⟩:=Oper.apart_spec hap;have hmem:al∈oi.op.operands:=by rw[hload];simp[Op.operands]
   have key:∀ (hh:List AO) v,(({ s with h:=hh }:AS).putO oj.dst v).ev al=s.ev al:=fun hh v=>Aj (fun d hd=>a1 d hd) _ hmem
   have cl:Qx hcall oi.op=1:=by rw[hload];rfl
   rcases h1' with⟨_,_,v,h',he,rfl⟩ | ⟨_,rfl⟩
   ·rw[key,putO_h]
    show AddrV h' (s.ev al);replace he:Qq P tok (strict j) hcall (nid j) oj.op s.ev s.h v h':=he;rcases hcls with(((((((h |h) | ⟨h,h'⟩) | ⟨h,h'⟩) | ⟨⟨h,h'⟩,h''⟩) | ⟨⟨h,h'⟩,h''⟩) | ⟨h,h'⟩) | ⟨h,h'⟩) | ⟨h,h'⟩
    ·obtain⟨rfl,_⟩:=fT h (Ha hb1) he;exact h0
    ·rw[cl]at h;cases h
    ·obtain⟨rfl,_⟩:=YL h he;exact h0
    ·rw[cl]at h;cases h
    ·rw[hsi]at h;cases h
    ·rw[cl]at h'';cases h''
    ·unfold CN at h'
     rw[hload]at h';simp[CF]at h'
    ·exact h0.app (Vk h' he)
    ·rw[hload]at h';simp[CF,lu]at h'
   ·have:=key s.h XO
    rw[show({ s with h:=s.h }:AS)=s from rfl]at this;rw[this,putO_h];exact h0
  obtain⟨u1,u',g1,gi,g2,g3⟩:=pV hn hinj A B (fun k hk=>hA k (by simp[hk])) hu1 hfr1 had1 h2;obtain⟨t1,t2,f1,f2,f3⟩:=v6 hn (fun id hid e=>hji (hinj j i id hid e)) hmv hu hfr had h0 h1 g1 gi;obtain⟨t',f4,f5⟩:=g2.eqv f3;obtain⟨oj,hoj,_⟩:=id h1;obtain⟨oi,hoi,_⟩:=id f1;have hm:=hmv oj oi hoj hoi;simp only[Dl,Bool.and_eq_true]at hm;obtain⟨a1,_,a3⟩:=Oper.apart_spec hm.1.1.1;refine⟨t1,t',f1,GT.move hoi (fun x hx=>(Rg hoj h1 (fun d hd=>a1 d hd) x hx).symm) gi,⟨GT.move hoj (fun x hx=>Rg hoi f1 (fun d hd=>a3 d hd) x hx) h0,t2,f2,f4⟩,g3.trans f5⟩
def Cm (hcall:Bool)(all:Array Oper)(i:Nat):Nat:=((all.toList.take i).filter fun o=>Qx hcall o.op == 2).length
def Cj (hcall:Bool)(all:Array Oper)(base:Nat)(i:Nat):Option Nat :=
 match all[i]? with
 |some o=>if Qx hcall o.op=2 then some (base+Cm hcall all i)else none
 |none=>none
def E3 (hcall:Bool)(all:Array Oper):Nat:=(all.toList.filter fun o=>Qx hcall o.op == 2).length
def fS (o:Oper)(j:Nat):Bool:=o.after.any fun e=>Region.binds .any e && e.on == j
def Hw (all:Array Oper):Nat→Nat→Nat→Bool
 |0,_,_=>false
 |f+1,i,j=>match all[i]? with
  |none=>false
  |some o=>o.after.any fun e=>Region.binds .any e && (e.on == j || Hw all f e.on j)
theorem Fl {all:Array Oper}{listed:Array Bool}(hdown:∀ k o,all[k]?=some o→listed.getD k false=true→∀ e∈o.after,Region.binds .any e=true→listed.getD e.on false=true){j:Nat} :
  ∀ (f i:Nat),(∀o,all[i]?=some o→∀e∈o.after,Region.binds .any e=true→listed.getD e.on false=true)→Hw all f i j=true→listed.getD j false=true
 |0,_,_,h=>by simp[Hw]at h
 |f+1,i,hr,h=>by
  simp only[Hw]at h;cases ho:all[i]? with
  |none=>simp[ho]at h
  |some o =>
   simp only[ho]at h;obtain⟨q,hq,hb⟩:=Array.any_eq_true.1 h;simp only[Bool.and_eq_true,Bool.or_eq_true,beq_iff_eq]at hb;have hl:=hr o ho _ (Array.getElem_mem hq) hb.1;rcases hb.2 with e |e
   ·rw[←e];exact hl
   ·exact Fl hdown f _ (fun o' ho'=>hdown _ o' ho' hl) e
def fO (fl strict:Nat→Bool)(hcall:Bool)(all:Array Oper):Bool :=
 (List.range all.size).all fun i=>match all[i]? with
  |none=>true
  |some oi=>oi.after.all (fun e=>!Region.binds .any e || decide (e.on<i)) &&
    (List.range i).all fun j=>fS oi j || (match all[j]? with
     |none=>true
     |some oj=>Dl strict (fl j) (fl i) (strict j) (strict i) hcall all oj oi) || Hw all 6 i j
theorem Mb {hcall:Bool}{all:Array Oper}{i j:Nat}{o:Oper}(ho:all[i]?=some o)(hc:Qx hcall o.op=2)(hij:i<j):Cm hcall all i<Cm hcall all j:=by
 unfold Cm;have hi:i<all.toList.length:=by simpa using (Array.getElem?_eq_some_iff.1 ho).1
 have h1:(all.toList.take (i+1))=all.toList.take i ++ [o]:=by
  rw[List.take_succ_eq_append_getElem hi];congr 2;have:=(Array.getElem?_eq_some_iff.1 ho).2
  simpa using this
 have h2:(all.toList.take (i+1)).Sublist (all.toList.take j):=List.take_sublist_take_left (by omega);have h3:=(h2.filter fun o=>Qx hcall o.op == 2).length_le;rw[h1,List.filter_append,List.length_append]at h3;simp[hc]at h3;omega
theorem NJ {hcall:Bool}{all:Array Oper}{base i j id:Nat}(hi:Cj hcall all base i=some id)(hj:Cj hcall all base j=some id):i=j:=by
 unfold Cj at hi hj;cases ho:all[i]? with
 |none=>simp[ho]at hi
 |some oi =>
  cases ho':all[j]? with
  |none=>simp[ho']at hj
  |some oj =>
   simp only[ho]at hi;simp only[ho']at hj
   split at hi
   ·split at hj
    ·rename_i c1 c2
     simp at hi hj;rcases Nat.lt_trichotomy i j with h |h |h
     ·have:=Mb ho c1 h;omega
     ·exact h
     ·have:=Mb ho' c2 h;omega
    ·cases hj
   ·cases hi
theorem jv {hcall:Bool}{all:Array Oper}{i:Nat}{o:Oper}(ho:all[i]?=some o)(hc:Qx hcall o.op=2):Cm hcall all i<E3 hcall all:=by
 have hi:i<all.size:=(Array.getElem?_eq_some_iff.1 ho).1;have:=Mb (j:=all.size) ho hc hi;have e:Cm hcall all all.size=E3 hcall all:=by
  unfold Cm E3;rw[List.take_of_length_le (by simp)]
 omega
theorem aE {hcall:Bool}{all:Array Oper}{base i:Nat}{o:Oper}(ho:all[i]?=some o):Cj hcall all base i≠none↔Qx hcall o.op=2:=by
 unfold Cj;simp only[ho]
 split <;> simp_all
theorem Sa {l:List Nat}{i:Nat}(hi:i∈l)(hs:l.Pairwise (·<·)):∃A B,l=A ++ i :: B∧(∀j∈A,j<i)∧(∀j∈B,i<j):=by
  obtain⟨A,B,rfl⟩:=List.append_of_mem hi;rw[List.pairwise_append]at hs;refine⟨A,B,rfl,fun j hj=>hs.2.2 j hj i (by simp),fun j hj=>?_⟩;exact(List.pairwise_cons.1 hs.2.1).1 j hj
theorem eu {P:Program}{fl:Nat→Bool}{T:Nat→Prop}{strict:Nat→Bool}{hcall:Bool}{all:Array Oper}{N base:Nat}{ro:Option Nat}{ds:List Deferred}(hN:∀ o∈all.toList,∀ i,o.dst=some i→i<N)(hd:fO fl strict hcall all=true){Q:Exit→Act→World→Prop}{s':AS} :
    ∀ (l:List Nat) (listed:Array Bool) {s:AS} {c:Ctx} {a:Act},listed.size=all.size→(∀k o,all[k]?=some o→listed.getD k false=true→∀e∈o.after,Region.binds .any e=true→listed.getD e.on false=true)→l.Pairwise (·<·)→(∀i,i∈l↔i<all.size∧listed.getD i true=false)→St N c a s→(∀p∈tok,TokOk c p) →
    (∀i∈l,∀id,Cj hcall all base i=some id→s.h[id]?=some .unborn)→(∀m t,oU strict all m t=true→listed.getD m false=true→Mv (s.get t)) →
    (∃t',AExecT P tok strict hcall (Cj hcall all base) all fl T l s t'∧s'.eqv t')→(∀a' c',St N c' a' s'→Ext c c'→Q .normal { a' with defers:=ds } c'.w) →
    wpAnyIn (Zv ro) 0 P .any all Q l.length listed { a with defers:=ds } c.w:=by
  intro l;generalize hlen:l.length=n;intro listed s c a hsz hdown hs hmem hst htok hu hso hex hQ
  induction n generalizing l listed s c a with
  |zero =>
    obtain rfl:l=[]:=List.eq_nil_of_length_eq_zero hlen;obtain⟨t',h1,h2⟩:=hex;cases h1;refine⟨?_,hQ a c (hst.eqv ⟨h2.n0.symm,h2.hid.symm,h2.len.symm,h2.h.symm,fun i=>(h2.get i).symm⟩) (Ext.refl c)⟩;apply List.eq_nil_iff_forall_not_mem.2;intro i hi;obtain⟨h3,o,ho,_⟩:=mem_ready.1 hi;have:i∈([]:List Nat):=(hmem i).2 ⟨(Array.getElem?_eq_some_iff.1 ho).1,h3⟩;simp at this
  |succ n ih =>
    have hd':∀i oi,all[i]?=some oi→(∀e∈oi.after,Region.binds .any e=true→e.on<i)∧∀j,j<i→fS oi j=true∨(∀oj,all[j]?=some oj→Dl strict (fl j) (fl i) (strict j) (strict i) hcall all oj oi=true)∨Hw all 6 i j=true:=by
      intro i oi hoi;have hlt:=(Array.getElem?_eq_some_iff.1 hoi).1;have h1:=(List.all_eq_true.1 hd) i (by simpa using hlt);simp only[hoi,Bool.and_eq_true]at h1;refine⟨fun e he hb=>?_,fun j hj=>?_⟩
      · have:=(Array.all_eq_true_iff_forall_mem.1 h1.1) e he
        simpa [hb]using this
      · have:=(List.all_eq_true.1 h1.2) j (by simpa using hj);simp only[Bool.or_eq_true]at this;rcases this with(h |h) |h
        · exact .inl h
        · exact .inr (.inl fun oj hoj=>by simpa [hoj]using h)
        · exact .inr (.inr h)
    have hne:l≠[]:=by rintro rfl;simp at hlen
    refine⟨fun hempty=>?_,fun i hi=>?_⟩
    ·
      exfalso;obtain⟨i,l',rfl⟩:=List.exists_cons_of_ne_nil hne;obtain⟨hlt,hun⟩:=(hmem i).1 (by simp);have hoi:all[i]?=some all[i]:=Array.getElem?_eq_getElem hlt;have:i∈Region.ready .any all listed:=by
        refine mem_ready.2 ⟨hun,all[i],hoi,fun e he hb=>?_⟩;have hlt':=(hd' i _ hoi).1 e he hb;have hnot:e.on∉i :: l':=by
          intro hm;rcases List.mem_cons.1 hm with h |h
          · omega
          · have:=(List.pairwise_cons.1 hs).1 _ h;omega
        have hsz':e.on<listed.size:=by omega
        have:¬ (e.on<all.size∧listed.getD e.on true=false):=fun h=>hnot ((hmem e.on).2 h)
        have h2:listed.getD e.on true≠false:=fun h=>this ⟨by omega,h⟩
        simp[Array.getD,hsz']at h2 ⊢;exact h2
      rw[hempty]at this;simp at this
    · obtain⟨hun,oi,hoi,hall⟩:=mem_ready.1 hi;have hil:i∈l:=(hmem i).2 ⟨(Array.getElem?_eq_some_iff.1 hoi).1,hun⟩;obtain⟨A,B,rfl,hA,hB⟩:=Sa hil hs;obtain⟨t',h1,h2⟩:=hex;have hmv:∀j∈A,j≠i∧∀oj oi,all[j]?=some oj→all[i]?=some oi→Dl strict (fl j) (fl i) (strict j) (strict i) hcall all oj oi=true:=by
        intro j hj;have hji:=hA j hj;refine⟨by omega,fun oj oi' hoj hoi'=>?_⟩;rw[hoi]at hoi';cases hoi';rcases(hd' i oi hoi).2 j hji with h |h |h
        · exfalso;obtain⟨q,hq,hb⟩:=Array.any_eq_true.1 h;obtain⟨e,he⟩:∃e,e=oi.after[q]:=⟨_,rfl⟩
          rw[←he]at hb;replace he:e∈oi.after:=by rw[he];exact Array.getElem_mem _
          simp only[Bool.and_eq_true,beq_iff_eq]at hb;have hl:=hall e he hb.1;rw[hb.2]at hl;have hjun:=((hmem j).1 (by simp[hj])).2;have hjs:j<listed.size:=by have:=((hmem j).1 (by simp[hj])).1;omega
          simp[Array.getD,hjs]at hl hjun;rw[hl]at hjun;cases hjun
        · exact h oj hoj
        · exfalso;have hl:=Fl hdown 6 i (fun o ho e he hb=>by rw[hoi]at ho;cases ho;exact hall e he hb) h;have hjun:=((hmem j).1 (by simp[hj])).2;have hjs:j<listed.size:=by have:=((hmem j).1 (by simp[hj])).1;omega
          simp[Array.getD,hjs]at hl hjun;rw[hl]at hjun;cases hjun
      have hfr:Iq strict all i s:=by
        intro oi' hoi' hf t ht;rw[hoi]at hoi';cases hoi';unfold CN at hf;rw[ht]at hf;obtain⟨q,hq,hb⟩:=Array.any_eq_true.1 hf;simp only[Bool.and_eq_true]at hb;exact hso _ t hb.2 (hall _ (Array.getElem_mem hq) hb.1)
      have had:Oe all i s:=by
        intro oi' tl al _ _ id ver off hev;have hr:=hst.ev al;rw[hev]at hr;have hH:=hst.heap;generalize a.eval al=vv at hr;cases hr with
        |ref _ _ _ b sz hi hg=>exact .inl ⟨ver,by rw[←hH];exact hi,Nat.le_refl _⟩
        |refOld _ _ _ ad hs =>
          rcases hs with⟨v',hv,hlt⟩ |hd
          · exact .inl ⟨v',by rw[←hH];exact hv,by omega⟩
          · exact .inr (by rw[←hH];exact hd)
      obtain⟨t1,t2,f1,_,f2,f3⟩:=pV (nid:=Cj hcall all base) (fun i o ho=>aE ho) (fun i j id hi hj=>NJ hi hj) A B hmv (hu i (by simp)) hfr (fun _=>had) h1;have hso1:∀m t,oU strict all m t=true→(listed.setIfInBounds i true).getD m false=true→Mv (t1.get t):=by
        intro m t hsm hlm;have hspec:=hsm;unfold oU at hspec;cases hom:all[m]? with
        |none=>simp[hom]at hspec
        |some om =>
          simp only[hom,Bool.and_eq_true,beq_iff_eq]at hspec;obtain⟨⟨⟨⟨p1,p0⟩,p2⟩,p3⟩,p4⟩:=hspec;obtain⟨o',ho',f1'⟩:=f1;rw[hoi]at ho';cases ho';by_cases hmi:m=i
          · subst hmi;rw[hoi]at hom;cases hom;rcases f1' with⟨_,_,v,h',he,rfl⟩ | ⟨hg,_⟩
            · have hv:∃n k f b,v=.sl n k f b:=by
                cases hop:oi.op with
                |buildSlice bt bn bps =>
                  rw[hop]at he;rcases he with he |he
                  · have p0':strict m=false:=by simpa using p0
                    replace he:(if strict m=true then KP P bt bn (bps.toList.map fun p=>(p.1,s.ev p.2)) s.h else(JL P bt bn (bps.toList.map fun p=>(p.1,s.ev p.2))).map (fun v=>(v,s.h)))=some (v,h'):=he;rw[if_neg (by rw[p0'];decide)]at he;replace he:(JL P bt bn (bps.toList.map fun p=>(p.1,s.ev p.2))).map (fun v=>(v,s.h))=some (v,h'):=he;cases hb:JL P bt bn (bps.toList.map fun p=>(p.1,s.ev p.2))with
                    |none=>rw[hb]at he;simp at he
                    |some x =>
                      rw[hb]at he;simp at he;obtain⟨rfl,_⟩:=he;unfold JL at hb
                      split at hb
                      · split at hb
                        · have:=AW hb;rw[Option.map_eq_some_iff]at this;obtain⟨z,_,rfl⟩:=this;exact⟨_,_,_,true,rfl⟩
                        · cases hb
                      · cases hb
                  · obtain⟨f,args,ts,e⟩:=J0 he;cases e
                |_=>rw[hop]at p1;cases p1
              rw[p3];show Mv (AS.get (AS.put _ t v) t);rw[GA]
              split
              · exact .inl hv
              · rename_i hno;simp only[true_and,Classical.not_imp]at hno;right;unfold AS.get;rw[if_pos hno.1];simp only[List.getD_eq_getElem?_getD];rw[List.getElem?_eq_none (by have:=hno.2;omega)];rfl
            · unfold gval at hg;cases hgo:oi.guard with
              |none=>simp[hgo]at hg
              |some q=>simp[hgo]at p2
          · rw[getD_set_ne false (Ne.symm hmi)]at hlm;have h0:=hso m t hsm hlm;have hil':=(Array.getElem?_eq_some_iff.1 hoi).1;have:=(List.all_eq_true.1 p4) i (by simpa using hil');simp only[hoi,Bool.or_eq_true,beq_iff_eq,Bool.not_eq_true']at this;have hne:oi.dst≠some t:=by
              rcases this with e |e
              · exact absurd e.symm hmi
              · intro e';rw[e']at e;simp at e
            have key:∀ (hh:List AO) v,(({ s with h:=hh }:AS).putO oi.dst v).get t=s.get t:=fun hh v=>VF (x:=.tmp t) (fun i hi e=>hne (by rw[hi];cases e;rfl))
            rcases f1' with⟨_,_,v,h',he,rfl⟩ | ⟨_,rfl⟩
            · rw[key];exact h0
            · have:=key s.h XO;rw[show({ s with h:=s.h }:AS)=s from rfl]at this;rw[this];exact h0
      refine f1.sound hst htok hN fun a' c' hst' hx=>?_
      have hlen':(A ++ B).length=n:=by simp at hlen ⊢;omega
      refine ih (A ++ B) hlen' (listed.setIfInBounds i true) (by simpa using hsz) ?_ ?_ ?_ hst' (fun p hp=>(htok p hp).ext hx) ?_ hso1 ⟨t2,f2,h2.trans f3⟩ (fun a'' c'' hst'' hx'=>hQ a'' c'' hst'' (hx.trans hx'))
      · have mono:∀q,listed.getD q false=true→(listed.setIfInBounds i true).getD q false=true:=by
          intro q hq;by_cases hqi:q=i
          · have:i<listed.size:=by have:=(Array.getElem?_eq_some_iff.1 hoi).1;omega
            subst hqi;simp[Array.getD,this]
          · rw[getD_set_ne false (Ne.symm hqi)];exact hq
        intro q o ho hl e he hb;by_cases hqi:q=i
        · subst hqi;rw[hoi]at ho;cases ho;exact mono _ (hall e he hb)
        · rw[getD_set_ne false (Ne.symm hqi)]at hl;exact mono _ (hdown q o ho hl e he hb)
      · rw[List.pairwise_append]at hs ⊢;exact⟨hs.1,(List.pairwise_cons.1 hs.2.1).2,fun a ha b hb=>hs.2.2 a ha b (by simp[hb])⟩
      · intro j;have hj0:=hmem j;by_cases hji:j=i
        · subst hji;constructor
          · intro h;exfalso;rcases List.mem_append.1 h with h |h
            · have:=hA _ h;omega
            · have:=hB _ h;omega
          · rintro⟨h3,h4⟩;exfalso;have:j<listed.size:=by omega
            simp[Array.getD,this]at h4
        · rw[getD_set_ne true (Ne.symm hji)];rw[←hj0];simp[hji]
      · intro j hj id hid;have hji:j≠i:=by
          rintro rfl;rcases List.mem_append.1 hj with h |h
          · have:=hA _ h;omega
          · have:=hB _ h;omega
        have hjl:j∈A ++ i :: B:=by
          rcases List.mem_append.1 hj with h |h <;> simp[h]
        obtain⟨o',ho',f1'⟩:=f1;rcases f1' with⟨_,_,v,h',he,rfl⟩ | ⟨_,rfl⟩
        · rw[putO_h];exact Hi (show Qq P tok (strict i) hcall (Cj hcall all base i) o'.op s.ev s.h v h' from he) (hu j hjl id hid) (fun e=>hji (NJ hid e))
        · rw[putO_h];exact hu j hjl id hid
structure Env where
 P:Program
 fn:Func
 str:List Nat
 hcs:List Nat
 base:Nat
 rnd:Option (Nat×Loop)
 tok:List Tok
 out:Option (Nat×Loop×Loop)
 Q:AV→List AO→Prop
def RD (D:Nat):Deferred:={ target:=.collected D,args:=#[] }
def Marks (c0 c:Ctx):List Deferred→Prop
 | []=>True
 |d :: ds=>(∃D,d=RD D∧c0.w.heap.size≤D∧Kept c D (.deferred (some []))∧d∉ds)∧Marks c0 c ds
theorem Marks.ext {m:Nat}{c0 c c':Ctx}(hx:ExtB m c c'):∀ {ds:List Deferred},Marks c0 c ds→Marks c0 c' ds
 | [],_=>trivial
 |_ :: _,⟨⟨D,e,h1,h2,h3⟩,h⟩=>⟨⟨D,e,h1,h2.ext hx,h3⟩,h.ext hx⟩
structure Pre (X:Env)(c0 c:Ctx)(ds:List Deferred):Prop where
 ext:ExtB X.base c0 c
 tok:∀p∈X.tok,TokOk c p∧p.ce.H.length≤X.base
 rnd:∀l r,X.rnd=some (l,r)→Kept c l (.loop r)∧ZK c0 l
 marks:Marks c0 c ds
 out:∀l r r1,X.out=some (l,r,r1)→X.rnd=none→Kept c0 l (.loop r)
theorem Pre.step {X:Env}{c0 c c':Ctx}{ds:List Deferred}(h:Pre X c0 c ds)(hx:ExtB X.base c c'):Pre X c0 c' ds :=
 ⟨h.ext.trans hx,fun p hp=>⟨(h.tok p hp).1.extB (h.tok p hp).2 hx,(h.tok p hp).2⟩,fun l r e=>⟨(h.rnd l r e).1.ext hx,(h.rnd l r e).2⟩,h.marks.ext hx,h.out⟩
def Vd (X:Env)(c:Ctx):Prop:=∀l r,X.rnd=some (l,r)→∃st pe,Kept c l (.loop { r with state:=st,pending:=pe })
def GQ (l:List Nat)(id i:Nat):Bool:=l.contains id && !l.contains (1000*id+1000+i)
def YP:List Nat→Nat→Nat→Bool
 | [],_,_=>false
 |c :: l,id,i=>(c/1000000000000 == id+1 && c%1000000000000 == i) || YP l id i
def Di:List Nat→Nat→Bool
 | [],_=>true
 |c :: l,id=>if c/1000000000000=id+1 then false else Di l id
theorem Nw {id:Nat}:∀ {l:List Nat},Di l id=true→∀i,YP l id i=false
 | [],_,_=>rfl
 |c :: l,h,i=>by
  unfold Di at h
  split at h
  ·cases h
  ·rename_i hc
   unfold YP;rw[Nw h i];simp[hc]
def qu (N:Nat)(ops:Array Oper):Bool:=ops.all fun o=>match o.dst with |some d=>decide (d<N) |none=>true
def QC (N:Nat)(str hcs:List Nat):Code→Bool
 | .region id ops draw=>qu N ops && (!draw || fO (YP str id) (GQ str id) (hcs.contains id) ops)
 | .seq a b=>QC N str hcs a && QC N str hcs b
 | .cond _ a b=>QC N str hcs a && QC N str hcs b
 | .block _ b=>QC N str hcs b
 | .loop b=>QC N str hcs b
 | .scope b=>QC N str hcs b
 | .rangeFunc ..=>true
 | .ret=>true
 |_=>true
def Z0 (N:Nat)(str hcs:List Nat):Item→Bool
 | .code c=>QC N str hcs c
 | .inBlock _=>true
 | .inLoop c=>QC N str hcs c
 | .inScope c=>QC N str hcs c
 | .beginRound=>true
 |_=>false
def D2 (X:Env)(k:List Item):Prop:=∀i∈k,Z0 X.fn.ntmps X.str X.hcs i=true
def ll (X:Env)(b:Frame)(ds:List Deferred)(fr:Frame)(w:World)(v:Value):Prop :=
 match X.rnd with
 |none=>fr.fn=b.fn∧fr.leaving X.P w (.returned v)
 |some _=>match X.out with
  |none=>∃a':Act,fr=b.atR { a' with defers:=ds } []
  |some (_,_,r1)=>∃ (a':Act) (k':List Item),fr=b.atR { a' with defers:=ds } (.code (r1.pending.getD .ret) :: k')∧∀id,r1.pending=some (.exit id)→exitTo id k'=none
def Tt (X:Env)(c0 c':Ctx):Prop:=match X.out,X.rnd with
 |some (l,r,r1),none=>Kept c' l (.loop r1)∧ExtB X.base c0 ⟨c'.w.putObj l (.loop r),c'.S,c'.γ,c'.H⟩
 |_,_=>ExtB X.base c0 c'
theorem FS {X:Env}(h:X.out=none){c0 c':Ctx}:Tt X c0 c'=ExtB X.base c0 c':=by unfold Tt;rw[h]
theorem D0 {X:Env}{q:Nat×Loop}(h:X.rnd=some q){c0 c':Ctx}:Tt X c0 c'=ExtB X.base c0 c':=by
 unfold Tt;rw[h];cases X.out <;> rfl
def Run (X:Env)(k:List Item)(s:AS):Prop :=
 X.P.follows .mixedOrders=true→D2 X k→(X.rnd.isSome=true→X.str.contains 888888=true)→∀ (c0 c:Ctx) (a:Act) (ds:List Deferred),St X.fn.ntmps c a s→Pre X c0 c ds →
 ∀ (b:Frame) (cs:List Frame),X.P.funcs[b.fn]?=some X.fn→b.kind=.normal→b.roundOf=X.rnd.map (·.1) →
  ∃v fr r c',Steps X.P (lone (b.atR { a with defers:=ds } k) cs c.w) (lone fr cs c'.w)∧ll X b ds fr c'.w v∧Rep c' v r∧HRel c'∧Tt X c0 c'∧Vd X c'∧X.Q r c'.H
theorem Run.eqv {X:Env}{k:List Item}{s t:AS}(h:Run X k s)(he:t.eqv s):Run X k t :=
 fun hm hok hr c0 c a ds hst=>h hm hok hr c0 c a ds (hst.eqv he)
theorem Run.step {X:Env}{k k':List Item}{s:AS}(h:Run X k' s)(hok:D2 X k→D2 X k')
  (hs:∀ (c:Ctx) (a:Act) (ds:List Deferred) (b:Frame) (cs:List Frame),St X.fn.ntmps c a s→step X.P (lone (b.atR { a with defers:=ds } k) cs c.w)=.next (lone (b.atR { a with defers:=ds } k') cs c.w)):Run X k s:=by
 intro hm ho hr c0 c a ds hst hp b cs hf hk hb;obtain⟨v,fr,r,c',h1,h2⟩:=h hm (hok ho) hr c0 c a ds hst hp b cs hf hk hb;exact⟨v,fr,r,c',.head (hs c a ds b cs hst) h1,h2⟩
theorem Qn {X:Env}{i:Item}{k:List Item}:D2 X (i :: k)↔Z0 X.fn.ntmps X.str X.hcs i=true∧D2 X k:=by
 unfold D2;simp
theorem jS {X:Env}{k:List Item}{s:AS}(h:Run X k s):Run X (.code .skip :: k) s:=h.step (fun ho=>(Qn.1 ho).2) fun _ _ _ _ _ _=>stepR_skip
theorem aW {X:Env}{l:Nat}{k:List Item}{s:AS}(h:Run X k s):Run X (.code (.label l) :: k) s:=h.step (fun ho=>(Qn.1 ho).2) fun _ _ _ _ _ _=>stepR_label
theorem Ss {X:Env}{id:Nat}{k:List Item}{s:AS}(h:Run X k s):Run X (.inBlock id :: k) s:=h.step (fun ho=>(Qn.1 ho).2) fun _ _ _ _ _ _=>stepR_inBlock
theorem N9 {P:Program}{b:Frame}{a:Act}{k:List Item}{cs:List Frame}{w:World}{c:Code}:step P (lone (b.atR a (.inScope c :: k)) cs w)=.next (lone (b.atR a k) cs w) :=
 step_lone_go (by simp[stepG,stepG.exec,Frame.atR])
theorem SL {P:Program}{b:Frame}{a:Act}{k:List Item}{cs:List Frame}{w:World}{c:Code}:step P (lone (b.atR a (.code (.scope c) :: k)) cs w)=.next (lone (b.atR a (.code c :: .inScope c :: k)) cs w) :=
 step_lone_go (by simp[stepG,stepG.exec,Frame.atR])
theorem Su {X:Env}{c:Code}{k:List Item}{s:AS}(h:Run X k s):Run X (.inScope c :: k) s:=h.step (fun ho=>(Qn.1 ho).2) fun _ _ _ _ _ _=>N9
theorem oM {X:Env}{x y:Code}{k:List Item}{s:AS}(h:Run X (.code x :: .code y :: k) s):Run X (.code (.seq x y) :: k) s :=
 h.step (fun ho=>by obtain⟨h1,h2⟩:=Qn.1 ho;simp[Z0,QC]at h1;exact Qn.2 ⟨h1.1,Qn.2 ⟨h1.2,h2⟩⟩) fun _ _ _ _ _ _=>stepR_seq
theorem aU {X:Env}{id:Nat}{x:Code}{k:List Item}{s:AS}(h:Run X (.code x :: .inBlock id :: k) s):Run X (.code (.block id x) :: k) s :=
 h.step (fun ho=>by obtain⟨h1,h2⟩:=Qn.1 ho;exact Qn.2 ⟨by simpa [Z0,QC]using h1,Qn.2 ⟨rfl,h2⟩⟩) fun _ _ _ _ _ _=>stepR_block
theorem aY {X:Env}{x:Code}{k:List Item}{s:AS}(h:Run X (.code x :: .inScope x :: k) s):Run X (.code (.scope x) :: k) s :=
 h.step (fun ho=>by obtain⟨h1,h2⟩:=Qn.1 ho;exact Qn.2 ⟨by simpa [Z0,QC]using h1,Qn.2 ⟨by simpa [Z0,QC]using h1,h2⟩⟩) fun _ _ _ _ _ _=>SL
theorem EY {X:Env}{x:Code}{k:List Item}{s:AS}(h:Run X (.code x :: .inLoop x :: k) s):Run X (.code (.loop x) :: k) s :=
 h.step (fun ho=>by obtain⟨h1,h2⟩:=Qn.1 ho;exact Qn.2 ⟨by simpa [Z0,QC]using h1,Qn.2 ⟨by simpa [Z0,QC]using h1,h2⟩⟩) fun _ _ _ _ _ _=>stepR_loop
theorem DB {X:Env}{x:Code}{k:List Item}{s:AS}(h:Run X (.code x :: .inLoop x :: k) s):Run X (.inLoop x :: k) s :=
 h.step (fun ho=>by obtain⟨h1,h2⟩:=Qn.1 ho;exact Qn.2 ⟨by simpa [Z0,QC]using h1,Qn.2 ⟨h1,h2⟩⟩) fun _ _ _ _ _ _=>stepR_inLoop
theorem jM {X:Env}{o:Operand}{x y:Code}{k:List Item}{s:AS}{t:Bool}(ho:s.ev o=.bool t)(h:Run X (.code (if t then x else y) :: k) s):Run X (.code (.cond o x y) :: k) s :=
 h.step (fun ho=>by obtain⟨h1,h2⟩:=Qn.1 ho;simp[Z0,QC]at h1;refine Qn.2 ⟨?_,h2⟩;cases t <;> simp[Z0,h1]) fun c a ds b cs hst=>stepR_cond (by
  show a.eval o=_;have:=hst.ev o;rw[ho]at this;generalize a.eval o=q at this ⊢;cases this;rfl)
theorem aV {X:Env}{o:Operand}{x y:Code}{k:List Item}{s:AS}(ho:s.ev o=.abool)(hx:Run X (.code x :: k) s) (hy:Run X (.code y :: k) s):Run X (.code (.cond o x y) :: k) s:=by
 intro hm hok hr c0 c a ds hst hp b cs hf hk hb;have hv:=hst.ev o;rw[ho]at hv;have hq:∃t,a.eval o=.bool t:=by
  generalize a.eval o=q at hv;cases hv;exact⟨_,rfl⟩
 obtain⟨t,ht⟩:=hq;obtain⟨h1,h2⟩:=Qn.1 hok;simp[Z0,QC]at h1;have ht':({ a with defers:=ds }:Act).eval o=.bool t:=ht;cases t
 ·obtain⟨v,fr,r,c',h3,h4⟩:=hy hm (Qn.2 ⟨by simp[Z0,h1],h2⟩) hr c0 c a ds hst hp b cs hf hk hb
  exact⟨v,fr,r,c',.head (stepR_cond ht') h3,h4⟩
 ·obtain⟨v,fr,r,c',h3,h4⟩:=hx hm (Qn.2 ⟨by simp[Z0,h1],h2⟩) hr c0 c a ds hst hp b cs hf hk hb
  exact⟨v,fr,r,c',.head (stepR_cond ht') h3,h4⟩
theorem FB {id:Nat}:∀ {k k':List Item},exitTo id k=some k'→∀i∈k',i∈k
 | [],k',h=>by simp[exitTo]at h
 |i :: k,k',h=>by
  intro j hj;cases i <;> simp only[exitTo]at h
  case inBlock id' =>
   split at h
   ·cases h;exact List.mem_cons_of_mem _ hj
   ·exact List.mem_cons_of_mem _ (FB h j hj)
  all_goals exact List.mem_cons_of_mem _ (FB h j hj)
theorem jP {X:Env}{id:Nat}{k k':List Item}{s:AS}(hk:exitTo id k=some k')(h:Run X k' s):Run X (.code (.exit id) :: k) s :=
 h.step (fun ho i hi=>ho i (List.mem_cons_of_mem _ (FB hk i hi))) fun _ _ _ _ _ _=>stepR_exit hk
def Zq (P:Program)(s:AS):ResultVar→Option AV
 | .tmp t=>some (s.get t)
 | .cell a t=>Qm P false t (s.get a) s.h
def Jj (P:Program)(s:AS):List ResultVar→Option (List AV)
 | []=>some []
 |r :: l=>match Zq P s r,Jj P s l with
  |some v,some vs=>some (v :: vs)
  |_,_=>none
def Bb:List AV→AV
 | [v]=>v
 |l=>.tup l
def ZN (P:Program)(fn:Func)(s:AS):Option AV:=(Jj P s fn.results.toList).map Bb
theorem MZ {P:Program}{b:Bool}{t:TypeId}{a v:AV}{h:List AO}(hl:Qm P b t a h=some v):a.isPtr=true:=by
 unfold Qm at hl
 split at hl
 ·cases hl
 ·split at hl
  ·rfl
  ·rfl
  ·cases hl
theorem Fo {P:Program}{N:Nat}{c:Ctx}{a:Act}{s:AS}(hst:St N c a s):∀ (l:List ResultVar) (vs:List AV),Jj P s l=some vs →
  ∃xs:List Value,(l.mapM (m:=Sem) fun
   | .tmp t=>pure (a.tmps.getD t undef)
   | .cell ad t=>do loadVar t (←asAddr (a.tmps.getD ad undef))).run P c.w=.ok xs c.w∧RepL c xs.toArray vs
 | [],vs,h=>by
  simp[Jj]at h;subst h;exact⟨[],rfl,rfl,by simp⟩
 |r :: l,vs,h=>by
  simp only[Jj]at h
  split at h
  ·rename_i v vs' h1 h2
   cases h;obtain⟨xs,h3,h4⟩:=Fo hst l vs' h2;have one:∃x,((match r with
     | .tmp t=>pure (a.tmps.getD t undef)
     | .cell ad t=>do loadVar t (←asAddr (a.tmps.getD ad undef)):Sem Value)).run P c.w=.ok x c.w∧Rep c x v:=by
    cases r with
    |tmp t=>simp[Zq]at h1;subst h1;exact⟨_,rfl,hst.slots t⟩
    |cell ad t =>
     simp only[Zq]at h1;have hp:=MZ h1;rw[←hst.heap]at h1;obtain⟨y,g1,g2⟩:=HK (P:=P) hst.hrel (hst.slots ad) h1;obtain⟨b,hb⟩:=(hst.slots ad).isPtr hp;rw[hb]at g1;refine⟨y,?_,g2⟩;simp only[hb,asAddr,Sem.run_bind,Sem.run_pure,Result.andThen_ok]
     simpa [Instr.loadAt,Instr.sureAddr]using g1
   obtain⟨x,g1,g2⟩:=one;refine⟨x :: xs,?_,by simp[h4.1.symm],fun j hj=>?_⟩
   ·simp only[List.mapM_cons,Sem.run_bind]
    rw[g1];simp only[Result.andThen_ok];rw[h3];rfl
   ·cases j with
    |zero=>simpa using g2
    |succ j =>
     have:=h4.2 j (by simpa using hj)
     simpa using this
  ·cases h
theorem aQ {P:Program}{fn:Func}{N:Nat}{c:Ctx}{a:Act}{s:AS}(hst:St N c a s){v:AV}(h:ZN P fn s=some v):∃x,(results fn a.tmps).run P c.w=.ok x c.w∧Rep c x v:=by
 unfold ZN at h;cases hl:Jj P s fn.results.toList with
 |none=>simp[hl]at h
 |some vs =>
  simp[hl]at h;subst h;obtain⟨xs,h1,h2⟩:=Fo hst _ vs hl;have hm:(fn.results.mapM (m:=Sem) fun
   | .tmp t=>pure (a.tmps.getD t undef)
   | .cell ad t=>do loadVar t (←asAddr (a.tmps.getD ad undef))).run P c.w=.ok xs.toArray c.w:=by
   rw[←Array.toArray_toList (xs:=fn.results),List.mapM_toArray];simp only[Sem.run_map];rw[h1];rfl
  have key:(results fn a.tmps).run P c.w=.ok (if h:xs.toArray.size=1 then xs.toArray[0]else .tuple xs.toArray) c.w:=by
   unfold results;rw[Sem.run_bind]
   erw[hm]
   rfl
  rw[key];clear key hm h1 hl;have hlen:xs.length=vs.length:=by simpa using h2.1
  match xs,vs,hlen,h2 with
  | [x],[v],_,h2 =>
   refine⟨x,by simp,?_⟩;have:=h2.2 0 (by simp)
   simpa [Bb]using this
  | [],[],_,_=>exact⟨.tuple #[],by simp,.tup _ _ rfl (by simp)⟩
  |x :: y :: xs,v :: u :: vs,_,h2=>exact⟨.tuple (x :: y :: xs).toArray,by simp,.tup _ _ h2.1 h2.2⟩
def jG (r:Loop):Bool:=match r.pending with |none=>true |some .ret=>true |_=>false
def Sj (X:Env)(s:AS):Option AV:=match X.rnd,X.out with |none,none=>ZN X.P X.fn s |some _,some (_,_,r1)=>(match jG r1 with |true=>some .any |false=>none) |_,_=>none
def sV (X:Env)(s:AS):Option AV:=match X.rnd,X.out with |none,none=>ZN X.P X.fn s |some _,none=>some .any |_,_=>none
def RetOk (X:Env)(s:AS):Prop:=∃v,Sj X s=some v∧X.Q v s.h
def RetE (X:Env)(s:AS):Prop:=∃v,sV X s=some v∧X.Q v s.h
theorem RetOk.res {X:Env}{s:AS}(h:RetOk X s)(hn:X.rnd=none):X.out=none∧∃v,ZN X.P X.fn s=some v∧X.Q v s.h:=by
 obtain⟨v,h1,h2⟩:=h;unfold Sj at h1;rw[hn]at h1;cases ho:X.out with
 |none=>rw[ho]at h1;exact⟨rfl,v,h1,h2⟩
 |some q=>rw[ho]at h1;cases h1
theorem aR {r:Loop}(h:jG r=true):r.pending.getD .ret=.ret∧∀id,r.pending≠some (.exit id):=by
 unfold jG at h;cases hp:r.pending with
 |none=>exact⟨rfl,fun id=>by simp⟩
 |some c =>
  rw[hp]at h;cases c <;> first |exact⟨rfl,fun id=>by simp⟩ |cases h
theorem RetOk.rnd {X:Env}{s:AS}(h:RetOk X s){l:Nat×Loop}(hn:X.rnd=some l):(∃q,X.out=some q∧jG q.2.2=true)∧X.Q .any s.h:=by
 obtain⟨v,h1,h2⟩:=h;unfold Sj at h1;rw[hn]at h1;cases ho:X.out with
 |none=>rw[ho]at h1;cases h1
 |some q =>
  obtain⟨q1,q2,q3⟩:=q;rw[ho]at h1;simp only at h1;cases hr:jG q3 with
  |true=>rw[hr]at h1;cases h1;exact⟨⟨_,rfl,hr⟩,h2⟩
  |false=>rw[hr]at h1;cases h1
theorem RetE.res {X:Env}{s:AS}(h:RetE X s)(hn:X.rnd=none):X.out=none∧∃v,ZN X.P X.fn s=some v∧X.Q v s.h:=by
 obtain⟨v,h1,h2⟩:=h;unfold sV at h1;rw[hn]at h1;cases ho:X.out with
 |none=>rw[ho]at h1;exact⟨rfl,v,h1,h2⟩
 |some q=>rw[ho]at h1;cases h1
theorem RetE.rnd {X:Env}{s:AS}(h:RetE X s){l:Nat×Loop}(hn:X.rnd=some l):X.out=none∧X.Q .any s.h:=by
 obtain⟨v,h1,h2⟩:=h;unfold sV at h1;rw[hn]at h1;cases ho:X.out with
 |none=>rw[ho]at h1;cases h1;exact⟨rfl,h2⟩
 |some q=>rw[ho]at h1;cases h1
theorem Rj {m:Nat}{c0 c:Ctx}{w':World}{l:Nat}(hx:ExtB m c0 c)(hl:c0.w.heap.size≤l)(hsz:w'.heap.size=c.w.heap.size)(hsame:∀b,b≠l→w'.heap[b]?=c.w.heap[b]?)
  (hos:w'.os=c.w.os) (htape:w'.tape=c.w.tape) (hout:w'.output=c.w.output):ExtB m c0 ⟨w',c.S,c.γ,c.H⟩ :=
 ⟨fun id o hid ho=>hx.hle id o hid ho,hx.smono,hx.snew,hx.onew,fun b hb hn=>(hsame b (by omega)).trans (hx.same b hb hn),by rw[hsz];exact hx.size,hos.trans hx.os,htape.trans hx.tape,hout.trans hx.output⟩
theorem jA {c:Ctx}{w':World}{l:Nat}(hS:¬ c.S l)(hsame:∀ b,b≠l→w'.heap[b]?=c.w.heap[b]?){v:Value}{a:AV}(h:Rep c v a):Rep ⟨w',c.S,c.γ,c.H⟩ v a :=
 h.ext (fun _ h=>h) (fun b hb=>hsame b (fun e=>hS (e▸hb))) (HLe.refl c)
theorem EM {c:Ctx}{w':World}{l:Nat}(hr:HRel c)(hS:¬ c.S l)(hO:¬ ZK c l)(hsz:c.w.heap.size≤w'.heap.size)(hsame:∀b,b≠l→b<c.w.heap.size→w'.heap[b]?=c.w.heap[b]?):HRel ⟨w',c.S,c.γ,c.H⟩:=by
 have hrep:∀ {v:Value} {a:AV},Rep c v a→Rep ⟨w',c.S,c.γ,c.H⟩ v a:=fun h=>h.ext (fun _ h=>h) (fun b hb=>hsame b (fun e=>hS (e▸hb)) (hr.bound b hb)) (HLe.refl c)
 refine⟨?_,?_,?_,hr.inj,fun b hb=>Nat.lt_of_lt_of_le (hr.bound b hb) hsz⟩
 ·intro id v n f ho
  rcases hr.row id v n f ho with h | ⟨b,sz,cs,el,h1,h2,h3,h4,h5,h6⟩
  ·exact .inl h
  ·exact .inr ⟨b,sz,cs,el,h1,(hsame b (fun e=>hO (e▸⟨id,_,sz,ho,rfl,h1⟩)) (Array.getElem?_eq_some_iff.1 h2).1).trans h2,h3,h4,h5,fun j hj=>hrep (h6 j hj)⟩
 ·intro id v n f ho
  rcases hr.con id v n f ho with h | ⟨b,sz,cs,el,fr,h1,h2,h3,h4,h5,h6⟩
  ·exact .inl h
  ·exact .inr ⟨b,sz,cs,el,fr,h1,(hsame b (fun e=>hS (e▸h5)) (Array.getElem?_eq_some_iff.1 h2).1).trans h2,h3,h4,h5,fun j hj=>hrep (h6 j hj)⟩
 ·intro id k g ho
  obtain⟨b,sz,es,cl,h1,h2,h3,h4⟩:=hr.map id k g ho;exact⟨b,sz,es,cl,h1,(hsame b (fun e=>hO (e▸⟨id,_,sz,ho,rfl,h1⟩)) (Array.getElem?_eq_some_iff.1 h2).1).trans h2,h3,h4.ext fun v a hv=>hrep hv⟩
theorem Kept.poke {c:Ctx}{w':World}{l l':Nat}{o:Obj}(h:Kept c l' o)(hne:l'≠l)(hsame:∀b,b≠l→w'.heap[b]?=c.w.heap[b]?):Kept ⟨w',c.S,c.γ,c.H⟩ l' o :=
 ⟨(hsame l' hne).trans h.1,h.2.1,h.2.2⟩
theorem J5 (w:World)(l:Nat)(o:Obj):∀b,b≠l→(w.putObj l o).heap[b]?=w.heap[b]?:=fun b hb=>World.putObj_heap_other hb
theorem St.poke {N:Nat}{c:Ctx}{a:Act}{s:AS}(h:St N c a s){l:Nat}{o o':Obj}(hk:Kept c l o):St N ⟨c.w.putObj l o',c.S,c.γ,c.H⟩ a s :=
 ⟨h.size,h.defers,fun i=>jA hk.2.1 (J5 c.w l o') (h.slots i),h.heap,EM h.hrel hk.2.1 hk.2.2 (by simp) fun b hb _=>J5 c.w l o' b hb⟩
theorem UK {X:Env}(hn:X.rnd=none)(c:Ctx):Vd X c:=fun l r e=>by rw[hn]at e;cases e
theorem Mf {X:Env}{c:Ctx}(h:∀l r,X.rnd=some (l,r)→Kept c l (.loop r)):Vd X c:=fun l r e=>⟨r.state,r.pending,h l r e⟩
theorem Eb {X:Env}{c0:Ctx}{s:AS}{a:Act}{b:Frame}{cs:List Frame}(h:∃ v,ZN X.P X.fn s=some v∧X.Q v s.h)(hf:X.P.funcs[b.fn]?=some X.fn)(hk:b.kind=.normal)(hn:X.rnd=none) :
  ∀ (ds:List Deferred) (c:Ctx) (fr:Frame),St X.fn.ntmps c a s→ExtB X.base c0 c→Marks c0 c ds →
   fr.fn=b.fn→fr.tmps=a.tmps→fr.mode=.returning→fr.kind=.normal→fr.defers=ds →
   ∃v fr' r c',Steps X.P (lone fr cs c.w) (lone fr' cs c'.w)∧(fr'.fn=b.fn∧fr'.leaving X.P c'.w (.returned v))∧Rep c' v r∧HRel c'∧ExtB X.base c0 c'∧Vd X c'∧X.Q r c'.H
 | [],c,fr,hst,hx,hm,g1,g2,g3,g4,g5=>by
  obtain⟨r,h1,h2⟩:=h;obtain⟨x,h3,h4⟩:=aQ hst h1;exact⟨x,fr,r,c,.refl _ _,⟨g1,g3,g5,g4,X.fn,by rw[g1];exact hf,by rw[g2];exact h3⟩,h4,hst.hrel,hx,UK hn c,by rw[hst.heap];exact h2⟩
 |d :: ds,c,fr,hst,hx,hm,g1,g2,g3,g4,g5=>by
  obtain⟨⟨D,rfl,hD,hkD,hnot⟩,hm⟩:=hm;have hstep:=step_collected (P:=X.P) (fr:=fr) (cs:=cs) (w:=c.w) (by rw[g3];simp) g5 rfl (run_takeDeferred hkD.1);have hms:Marks c0 ⟨c.w.putObj D (.deferred none),c.S,c.γ,c.H⟩ ds:=by
   have:∀ds:List Deferred,RD D∉ds→Marks c0 c ds→Marks c0 ⟨c.w.putObj D (.deferred none),c.S,c.γ,c.H⟩ ds:=by
    intro ds
    induction ds with
    |nil=>exact fun _ _=>trivial
    |cons d ds ih =>
     rintro hn ⟨⟨D',rfl,q1,q2,q3⟩,q⟩;refine⟨⟨D',rfl,q1,q2.poke (fun e=>hn (by rw[e];simp)) (J5 c.w D _),q3⟩,ih (fun hh=>hn (by simp[hh])) q⟩
   exact this ds hnot hm
  obtain⟨v,fr',r,c',k1,k2⟩:=Eb h hf hk hn ds ⟨c.w.putObj D (.deferred none),c.S,c.γ,c.H⟩ { fr with defers:=ds } (hst.poke hkD)
   (Rj hx hD (by simp) (J5 c.w D _) rfl rfl rfl) hms g1 g2 g3 g4 rfl
  exact⟨v,fr',r,c',.head hstep k1,k2⟩
theorem oL {X:Env}{k:List Item}{s:AS}(h:RetOk X s):Run X (.code .ret :: k) s:=by
 intro _ ho hr c0 c a ds hst hp b cs hf hk hb;cases hrn:X.rnd with
 |none =>
  rw[hrn,Option.map_none]at hb;obtain⟨v,fr',r,c',k1,k2,k3,k4,k5,k6⟩:=Eb (cs:=cs) (h.res hrn).2 hf hk hrn ds c { b.atR { a with defers:=ds } (.code .ret :: k)with mode:=.returning } hst hp.ext hp.marks rfl rfl rfl hk rfl;exact⟨v,fr',r,c',.head (stepR_ret hb) k1,by unfold ll;rw[hrn];exact k2,k3,k4,by rw[FS (h.res hrn).1];exact k5,k6⟩
 |some l =>
  obtain⟨⟨⟨q1,q2,q3⟩,hq,hl⟩,hQ⟩:=h.rnd hrn;obtain⟨hl1,hl2⟩:=aR hl;exact⟨undef,_,.any,c,.refl _ _,by unfold ll;rw[hrn,hq];exact⟨a,k,by rw[hl1],fun id e=>absurd e (hl2 id)⟩,.any _,hst.hrel,by rw[D0 hrn];exact hp.ext,Mf (fun l' r' e=>(hp.rnd l' r' e).1),by rw[hst.heap];exact hQ⟩
theorem aX {X:Env}{id:Nat}{k:List Item}{s:AS}{q:Nat×Loop}{l:Nat}{r r1:Loop}(hrn:X.rnd=some q)(ho:X.out=some (l,r,r1)) (hp:r1.pending=some (.exit id)) (hk:exitTo id k=none) (hQ:X.Q .any s.h):Run X (.code (.exit id) :: k) s:=by
 intro _ _ hr c0 c a ds hst hpre b cs hf hkd hb;exact⟨undef,_,.any,c,.refl _ _,by unfold ll;rw[hrn,ho];exact⟨a,k,by rw[hp];rfl,fun i e=>by rw[hp]at e;cases e;exact hk⟩,.any _,hst.hrel,by rw[D0 hrn];exact hpre.ext,Mf (fun l' r' e=>(hpre.rnd l' r' e).1),by rw[hst.heap];exact hQ⟩
theorem oI {X:Env}{s:AS}(h:RetE X s):Run X [] s:=by
 intro _ ho hr c0 c a ds hst hp b cs hf hk hb;cases hrn:X.rnd with
 |none =>
  rw[hrn,Option.map_none]at hb;obtain⟨v,fr',r,c',k1,k2,k3,k4,k5,k6⟩:=Eb (cs:=cs) (h.res hrn).2 hf hk hrn ds c { b.atR { a with defers:=ds } []with mode:=.returning } hst hp.ext hp.marks rfl rfl rfl hk rfl;exact⟨v,fr',r,c',.head (stepR_end hb) k1,by unfold ll;rw[hrn];exact k2,k3,k4,by rw[FS (h.res hrn).1];exact k5,k6⟩
 |some l =>
  obtain⟨hq,hQ⟩:=h.rnd hrn;exact⟨undef,_,.any,c,.refl _ _,by unfold ll;rw[hrn,hq];exact⟨a,rfl⟩,.any _,hst.hrel,by rw[D0 hrn];exact hp.ext,Mf (fun l' r' e=>(hp.rnd l' r' e).1),by rw[hst.heap];exact hQ⟩
structure Md where
 all:Array Oper
 strict:Nat→Bool
 hcall:Bool
 base:Option Nat
 i:Nat
 nx:Nat
def Md.nid (M:Md):Nat→Option Nat:=match M.base with
 |none=>fun _=>none
 |some b=>Cj M.hcall M.all b
def Md.next (M:Md)(o:Oper):Md:={ M with i:=M.i+1,nx:=match M.base with |none=>M.nx |some _=>if Qx M.hcall o.op=2 then M.nx+1 else M.nx }
def Md.ok (M:Md)(rest:List Oper):Prop:=M.all.toList.drop M.i=rest∧∀b,M.base=some b→M.nx=b+Cm M.hcall M.all M.i
def ROps (X:Env)(M:Md)(rest:List Oper)(k:List Item)(s:AS):Prop :=
 ∃s',AExec X.P X.tok M.strict M.hcall M.nid M.all (List.range' M.i rest.length) s s'∧Run X k s'
theorem ROps.eqv {X:Env}{M:Md}{rest:List Oper}{k:List Item}{s t:AS}(h:ROps X M rest k s)(he:t.eqv s):ROps X M rest k t:=by
 obtain⟨s',h1,h2⟩:=h;obtain⟨t',h3,h4⟩:=h1.eqv (t:=t) ⟨he.n0.symm,he.hid.symm,he.len.symm,he.h.symm,fun i=>(he.get i).symm⟩;exact⟨t',h3,h2.eqv ⟨h4.n0.symm,h4.hid.symm,h4.len.symm,h4.h.symm,fun i=>(h4.get i).symm⟩⟩
theorem St.unborn {N:Nat}{c:Ctx}{a:Act}{s:AS}(h:St N c a s)(n:Nat):St N ⟨c.w,c.S,c.γ,s.h ++ List.replicate n .unborn⟩ a { s with h:=s.h ++ List.replicate n .unborn }∧Ext c ⟨c.w,c.S,c.γ,s.h ++ List.replicate n .unborn⟩:=by
 have hget:∀ (i:Nat) (o:AO),(s.h ++ List.replicate n AO.unborn)[i]?=some o→o≠.unborn→c.H[i]?=some o:=by
  intro i o ho hne;rw[h.heap];rw[List.getElem?_append]at ho
  split at ho
  ·exact ho
  ·exfalso
   have:=List.mem_of_getElem? ho;rw[List.mem_replicate]at this;exact hne this.2
 have hold:∀ (i:Nat) (o:AO),c.H[i]?=some o→(s.h ++ List.replicate n AO.unborn)[i]?=some o:=by
  intro i o ho;rw[h.heap]at ho;rw[List.getElem?_append_left (List.getElem?_eq_some_iff.1 ho).1];exact ho
 have hext:Ext c ⟨c.w,c.S,c.γ,s.h ++ List.replicate n .unborn⟩:=by
  refine⟨?_,fun _ h=>h,fun _ h=>.inl h,?_,fun _ _ _=>rfl,Nat.le_refl _,rfl,rfl,rfl⟩
  ·intro i o ho
   have h1:=hold i o ho;cases o with
   |unborn=>trivial
   |dead=>exact h1
   |row v _ _=>exact .inr ⟨v,by simp[inf,h1,AO.info],.inr ⟨rfl,rfl⟩⟩
   |con v _ _=>exact .inr ⟨v,by simp[inf,h1,AO.info],.inr ⟨rfl,rfl⟩⟩
   |map k g=>exact .inr ⟨⟨k,g,h1⟩,rfl⟩
  ·rintro b ⟨i,o,sz,ho,hown,hg⟩
   exact .inr ⟨i,o,sz,hget i o ho (by rintro rfl;simp[AO.owned]at hown),hown,hg⟩
 refine⟨⟨h.size,h.defers,fun i=>hext.rep h.hrel (h.slots i),rfl,?_⟩,hext⟩;refine⟨?_,?_,?_,?_,h.hrel.bound⟩
 ·intro id v m f ho
  rcases h.hrel.row id v m f (hget _ _ ho (by simp))with h1 | ⟨b,sz,cs,el,h1,h2,h3,h4,h5,h6⟩
  ·exact .inl h1
  ·exact .inr ⟨b,sz,cs,el,h1,h2,h3,h4,h5,fun j hj=>hext.rep h.hrel (h6 j hj)⟩
 ·intro id v m f ho
  rcases h.hrel.con id v m f (hget _ _ ho (by simp))with h1 | ⟨b,sz,cs,el,fr,h1,h2,h3,h4,h5,h6⟩
  ·exact .inl h1
  ·exact .inr ⟨b,sz,cs,el,fr,h1,h2,h3,h4,h5,fun j hj=>hext.rep h.hrel (h6 j hj)⟩
 ·intro id k g ho
  obtain⟨b,sz,es,cl,h1,h2,h3,h4⟩:=h.hrel.map id k g (hget _ _ ho (by simp));exact⟨b,sz,es,cl,h1,h2,h3,h4.ext fun v a hv=>hext.rep h.hrel hv⟩
 ·intro i i' o o' b sz sz' ho ho' h1 h2 hg hg'
  exact h.hrel.inj _ _ _ _ _ _ _ (hget _ _ ho (by rintro rfl;simp[AO.owned]at h1)) (hget _ _ ho' (by rintro rfl;simp[AO.owned]at h2)) h1 h2 hg hg'
theorem St.drew {N:Nat}{c:Ctx}{a:Act}{s:AS}(h:St N c a s):St N { c with w:=c.w.drew } a s∧Ext c { c with w:=c.w.drew }:=by
 have hext:Ext c { c with w:=c.w.drew }:=⟨HLe.refl c,fun _ h=>h,fun _ h=>.inl h,fun _ h=>.inr h,fun _ _ _=>rfl,Nat.le_refl _,rfl,rfl,rfl⟩
 have hrep:∀ {v a},Rep c v a→Rep { c with w:=c.w.drew } v a:=fun hv=>hext.rep h.hrel hv
 refine⟨⟨h.size,h.defers,fun i=>hrep (h.slots i),h.heap,?_⟩,hext⟩;refine⟨?_,?_,?_,h.hrel.inj,h.hrel.bound⟩
 ·intro id v m f ho
  rcases h.hrel.row id v m f ho with h1 | ⟨b,sz,cs,el,h1,h2,h3,h4,h5,h6⟩
  ·exact .inl h1
  ·exact .inr ⟨b,sz,cs,el,h1,h2,h3,h4,h5,fun j hj=>hrep (h6 j hj)⟩
 ·intro id v m f ho
  rcases h.hrel.con id v m f ho with h1 | ⟨b,sz,cs,el,fr,h1,h2,h3,h4,h5,h6⟩
  ·exact .inl h1
  ·exact .inr ⟨b,sz,cs,el,fr,h1,h2,h3,h4,h5,fun j hj=>hrep (h6 j hj)⟩
 ·intro id k g ho
  obtain⟨b,sz,es,cl,h1,h2,h3,h4⟩:=h.hrel.map id k g ho;exact⟨b,sz,es,cl,h1,h2,h3,h4.ext fun v a hv=>hrep hv⟩
theorem FI {N:Nat}{ops:Array Oper}(h:qu N ops=true):∀o∈ops.toList,∀i,o.dst=some i→i<N:=by
 intro o ho i hi;have:=(Array.all_eq_true_iff_forall_mem.1 h) o (by simpa using ho)
 simpa [hi]using this
theorem Run.region {X:Env}{id:Nat}{ops:Array Oper}{draw:Bool}{k:List Item}{s s':AS}(h:Run X k s')
  (hr:D2 X (.code (.region id ops draw) :: k)→X.P.follows .mixedOrders=true→∀ (c:Ctx) (a:Act) (ds:List Deferred),St X.fn.ntmps c a s→(∀p∈X.tok,TokOk c p) →
   (Code.region id ops draw).wpIn (Zv (X.rnd.map (·.1))) 0 X.P (fun e a' w'=>e=.normal∧∃ (a1:Act) (c':Ctx),a'={ a1 with defers:=ds }∧c'.w=w'∧St X.fn.ntmps c' a1 s'∧Ext c c') { a with defers:=ds } c.w):Run X (.code (.region id ops draw) :: k) s:=by
 intro hm ho hrn c0 c a ds hst hp b cs hf hk hb;obtain⟨e,a',w',⟨rfl,a1,c',rfl,rfl,hst',hx⟩,harr⟩:=hr ho hm c a ds hst (fun p hp'=>(hp.tok p hp').1) b k cs hb trivial (I9 _ _);obtain⟨v,fr,r,c'',h1,h2⟩:=h hm (Qn.1 ho).2 hrn c0 c' a1 ds hst' (hp.step (hx.toB _)) b cs hf hk hb;exact⟨v,fr,r,c'',Steps.trans (Ev.1 harr) h1,h2⟩
theorem UO {X:Env}{id:Nat}{ops:Array Oper}{k:List Item}{s:AS}{st:Nat→Bool}(h:ROps X ⟨ops,st,true,none,0,0⟩ ops.toList k s.clr):Run X (.code (.region id ops false) :: k) s:=by
 obtain⟨s',h1,h2⟩:=h;refine h2.region fun ho hm c a ds hst htok=>?_
 have hok:=(Qn.1 ho).1;simp only[Z0,QC,Bool.and_eq_true]at hok;refine wpIn_region ?_;have e:List.range ops.size=List.range' 0 ops.toList.length:=by simp[List.range_eq_range']
 rw[e];exact AExec.sound (FI hok.1) _ hst.clr htok h1 fun a' c' hst' hx=>⟨rfl,a',c',rfl,rfl,hst',hx⟩
def E6 (hcall:Bool)(ops:Array Oper)(s:AS):AS:={ s.clr with h:=s.h ++ List.replicate (E3 hcall ops) .unborn }
theorem AF {X:Env}{id:Nat}{ops:Array Oper}{k:List Item}{s:AS}(T:Nat→Prop)
  (h:∃s',AExecT X.P X.tok (GQ X.str id) (X.hcs.contains id) (Cj (X.hcs.contains id) ops s.h.length) ops (YP X.str id) T (List.range' 0 ops.toList.length) (E6 (X.hcs.contains id) ops s) s'∧Run X k s'):Run X (.code (.region id ops true) :: k) s:=by
 obtain⟨s',h1,h2⟩:=h;refine h2.region fun ho hm c a ds hst htok=>?_
 have hok:=(Qn.1 ho).1;simp only[Z0,QC,Bool.and_eq_true,Bool.not_true,Bool.false_or]at hok;refine wpIn_region_any hm ?_;obtain⟨hst1,hx1⟩:=hst.clr.drew;obtain⟨hst2,hx2⟩:=hst1.unborn (E3 (X.hcs.contains id) ops);have e:ops.toList.length=(List.range ops.size).length:=by simp
 have e2:List.range' 0 ops.toList.length=List.range ops.size:=by simp[List.range_eq_range']
 have e3:ops.size=(List.range ops.size).length:=by simp
 have key:=eu (P:=X.P) (fl:=YP X.str id) (T:=T) (strict:=GQ X.str id) (hcall:=X.hcs.contains id) (all:=ops) (N:=X.fn.ntmps) (base:=s.h.length) (FI hok.1) hok.2 (s':=s')
  (ro:=X.rnd.map (·.1)) (ds:=ds) (Q:=fun e a' w'=>e=.normal∧∃ (a1:Act) (c':Ctx),a'={ a1 with defers:=ds }∧c'.w=w'∧St X.fn.ntmps c' a1 s'∧Ext c c')
  (List.range ops.size) (Array.replicate ops.size false) (by simp) (fun k o _ hl=>by exfalso;simp[Array.getD]at hl) List.pairwise_lt_range (fun i=>by
   rw[List.mem_range];constructor
   ·intro hi;exact⟨hi,by simp[Array.getD,hi]⟩
   ·exact fun h=>h.1) hst2 (fun p hp=>(htok p hp).ext (hx1.trans hx2)) (fun i hi id' hid=>?_) (fun m t _ hl=>by exfalso;simp[Array.getD]at hl) ⟨s',by rw[←e2];exact h1,.rfl' _⟩ (fun a' c' hst' hx=>⟨rfl,a',c',rfl,rfl,hst',(hx1.trans hx2).trans hx⟩)
 ·rw[←e3]at key
  exact key
 ·unfold Cj at hid
  cases hoi:ops[i]? with
  |none=>simp[hoi]at hid
  |some oi =>
   simp only[hoi]at hid
   split at hid
   ·rename_i hc
    simp only[Option.some.injEq]at hid;have:=jv hoi hc;show(s.clr.h ++ _)[id']?=_;have hl:s.clr.h.length=s.h.length:=rfl;rw[List.getElem?_append_right (by omega)];rw[List.getElem?_replicate];rw[if_pos (by omega)]
   ·cases hid
theorem jN {X:Env}{id:Nat}{ops:Array Oper}{k:List Item}{s:AS}(hf:Di X.str id=true)
  (h:ROps X ⟨ops,GQ X.str id,X.hcs.contains id,some s.h.length,0,s.h.length⟩ ops.toList k (E6 (X.hcs.contains id) ops s)):Run X (.code (.region id ops true) :: k) s:=by
 obtain⟨s',h1,h2⟩:=h;exact AF (fun _=>True) ⟨s',AExec.toT (Nw hf) h1,h2⟩
def Sub (m:Nat)(s s':AS):Prop:=∀N c a,St N c a s→∃c':Ctx,c'.w=c.w∧ExtB m c c'∧St N c' a s'
theorem Run.sub {X:Env}{k:List Item}{s s':AS}(h:Run X k s')(hs:Sub X.base s s'):Run X k s:=by
 intro hm ho hr c0 c a ds hst hp b cs hf hk hb;obtain⟨c',hw,hx,hst'⟩:=hs _ c a hst;obtain⟨v,fr,r,c'',h1,h2⟩:=h hm ho hr c0 c' a ds hst' (hp.step hx) b cs hf hk hb;rw[hw]at h1;exact⟨v,fr,r,c'',h1,h2⟩
theorem Sub.rfl' (m:Nat)(s:AS):Sub m s s:=fun _ c _ h=>⟨c,rfl,(Ext.refl c).toB m,h⟩
theorem Sub.trans {m:Nat}{a b c:AS}(h:Sub m a b)(k:Sub m b c):Sub m a c:=fun N x y hst=>by
 obtain⟨c1,h1,h2,h3⟩:=h N x y hst;obtain⟨c2,k1,k2,k3⟩:=k N c1 y h3;exact⟨c2,k1.trans h1,h2.trans k2,k3⟩
theorem XC {m:Nat}{s:AS}(id:Nat){ver n:Nat}{f:Nat→AV}(ho:s.h[id]?=some (.row ver n f)):Sub m s { s with h:=s.h.set id (.con ver n f) }:=by
 intro N c a hst;have hH:=hst.heap;rw[←hH]at ho;have hlt:=(List.getElem?_eq_some_iff.1 ho).1;have hat:(c.H.set id (.con ver n f))[id]?=some (.con ver n f):=by simp[hlt]
 have hoth:∀i,i≠id→(c.H.set id (AO.con ver n f))[i]?=c.H[i]?:=fun i hi=>List.getElem?_set_ne (Ne.symm hi)
 let S':Nat→Prop:=fun b=>c.S b∨∃sz,c.γ id=some (b,sz)
 let c':Ctx:=⟨c.w,S',c.γ,c.H.set id (.con ver n f)⟩
 have hext:Ext c c':=by
  refine⟨?_,fun b h=>.inl h,?_,?_,fun _ _ _=>rfl,Nat.le_refl _,rfl,rfl,rfl⟩
  ·intro i o hoi
   by_cases hi:i=id
   ·subst hi
    rw[ho]at hoi;cases hoi;exact .inr ⟨ver,by simp[c',inf,hat,AO.info],.inr ⟨rfl,rfl⟩⟩
   ·have h1:=HLe.refl c i o hoi
    have e1:=hoth i hi;cases o with
    |unborn=>trivial
    |dead=>simpa [c',e1]using h1
    |row v _ _=>simpa [c',e1,inf]using h1
    |con v _ _=>simpa [c',e1,inf]using h1
    |map k g=>simpa [c',e1]using h1
  ·rintro b (h | ⟨sz,h⟩)
   ·exact .inl h
   ·exact .inr (.inr ⟨id,_,sz,ho,rfl,h⟩)
  ·rintro b ⟨i,o,sz,hoi,hown,hg⟩
   by_cases hi:i=id
   ·subst hi
    simp only[c']at hoi;rw[hat]at hoi;cases hoi;simp[AO.owned]at hown
   ·simp only[c']at hoi
    rw[hoth i hi]at hoi;exact .inr ⟨i,o,sz,hoi,hown,hg⟩
 have hrep:∀ {v a},Rep c v a→Rep c' v a:=fun hv=>hext.rep hst.hrel hv
 refine⟨c',rfl,hext.toB m,hst.size,hst.defers,fun i=>hrep (hst.slots i),by simp[c',hH],?_⟩;have hnS:∀ {i o b sz},i≠id→c.H[i]?=some o→o.owned=true→c.γ i=some (b,sz)→¬c.S b→¬S' b:=by
  rintro i o b sz hi hoi hown hg hn (h | ⟨sz',h⟩)
  ·exact hn h
  ·exact hi (hst.hrel.inj _ _ _ _ _ _ _ hoi ho hown rfl hg h)
 refine⟨?_,?_,?_,?_,?_⟩
 ·intro i v k g hoi
  by_cases hi:i=id
  ·subst hi;simp only[c']at hoi;rw[hat]at hoi;cases hoi
  ·simp only[c']at hoi
   rw[hoth i hi]at hoi;rcases hst.hrel.row i v k g hoi with h | ⟨b,sz,cs,el,h1,h2,h3,h4,h5,h6⟩
   ·exact .inl h
   ·exact .inr ⟨b,sz,cs,el,h1,h2,h3,h4,hnS hi hoi rfl h1 h5,fun j hj=>hrep (h6 j hj)⟩
 ·intro i v k g hoi
  by_cases hi:i=id
  ·subst hi
   simp only[c']at hoi;rw[hat]at hoi;cases hoi;rcases hst.hrel.row i ver n f ho with h | ⟨b,sz,cs,el,h1,h2,h3,h4,h5,h6⟩
   ·exact .inl h
   ·exact .inr ⟨b,sz,cs,el,(0,0),h1,h2,h3,h4,.inr ⟨sz,h1⟩,fun j hj=>hrep (h6 j hj)⟩
  ·simp only[c']at hoi
   rw[hoth i hi]at hoi;rcases hst.hrel.con i v k g hoi with h | ⟨b,sz,cs,el,fr,h1,h2,h3,h4,h5,h6⟩
   ·exact .inl h
   ·exact .inr ⟨b,sz,cs,el,fr,h1,h2,h3,h4,.inl h5,fun j hj=>hrep (h6 j hj)⟩
 ·intro i k g hoi
  by_cases hi:i=id
  ·subst hi;simp only[c']at hoi;rw[hat]at hoi;cases hoi
  ·simp only[c']at hoi
   rw[hoth i hi]at hoi;obtain⟨b,sz,es,cl,h1,h2,h3,h4⟩:=hst.hrel.map i k g hoi;exact⟨b,sz,es,cl,h1,h2,hnS hi hoi rfl h1 h3,h4.ext fun v a hv=>hrep hv⟩
 ·intro i i' o o' b sz sz' hoi hoi' h1 h2 hg hg'
  by_cases hi:i=id
  ·subst hi;simp only[c']at hoi;rw[hat]at hoi;cases hoi;simp[AO.owned]at h1
  ·by_cases hi':i'=id
   ·subst hi';simp only[c']at hoi';rw[hat]at hoi';cases hoi';simp[AO.owned]at h2
   ·simp only[c']at hoi hoi'
    rw[hoth i hi]at hoi;rw[hoth i' hi']at hoi';exact hst.hrel.inj _ _ _ _ _ _ _ hoi hoi' h1 h2 hg hg'
 ·rintro b (h | ⟨sz,h⟩)
  ·exact hst.hrel.bound b h
  ·exact hst.hrel.ownLt ⟨id,_,sz,ho,rfl,h⟩
def Uc (s:AS)(id:Nat):Option AO→AS
 |some (.row ver n f)=>{ s with h:=s.h.set id (.con ver n f) }
 |_=>s
def gR (s:AS):AV→AS
 | .ref id _ _=>Uc s id s.h[id]?
 | .osl id _ _ _ _=>Uc s id s.h[id]?
 |_=>s
def AS.frz (s:AS):List Nat→AS
 | []=>s
 |i :: l=>(gR s (s.get i)).frz l
def Fj:List Nat→Nat→List Nat
 | [],_=>[]
 |n :: l,id=>if n/10000000=id+1 then n%10000000 :: Fj l id else Fj l id
theorem kh (m:Nat)(s:AS)(v:AV):Sub m s (gR s v):=by
 have key:∀id,Sub m s (Uc s id s.h[id]?):=fun id=>by
  cases ho:s.h[id]? with
  |none=>exact Sub.rfl' m s
  |some o =>
   cases o with
   |row ver n f=>exact XC id ho
   |_=>exact Sub.rfl' m s
 cases v with
 |ref id ver off=>exact key id
 |osl id ver es off n=>exact key id
 |_=>exact Sub.rfl' m s
theorem WB (m:Nat):∀ (l:List Nat) (s:AS),Sub m s (s.frz l)
 | [],s=>Sub.rfl' m s
 |i :: l,s=>(kh m s (s.get i)).trans (WB m l _)
inductive Tag {α:Type}(a:α):Type where
 |mk
def WS (X:Env)(k:List Item)(_:Tag (X,k)) (s:AS):Prop:=Run X k s
def ub (X:Env)(_:Tag X)(s:AS):Prop:=RetOk X s
def vT (X:Env)(_:Tag X)(s:AS):Prop:=RetE X s
def WR (X:Env)(k:List Item)(s:AS):Prop:=Run X k s
def pO (X:Env)(M:Md)(o:Oper)(K:AS→Prop)(_:Tag (X,M,o,K)) (f:AV) (args:List AV) (s:AS):Prop :=
 ∃v h',Og X.P X.tok (M.strict M.i) M.hcall f args s.h v h'∧K (({ s with h:=h' }:AS).putO o.dst v)
abbrev FU (X:Env)(M:Md)(o:Oper)(f:AV)(args:List AV)(K:AS→Prop)(s:AS):Prop:=pO X M o K .mk f args s
def Mn:List (Nat×AV)→Nat→AV→List (Nat×AV)
 | [],_,_=>[]
 | (i,v) :: l,d,u=>if d=i then(i,u) :: l else(i,v) :: Mn l d u
def AS.fix (s:AS)(d:Nat)(v:AV):AS:=if d<s.n0 then { s with sl:=s.sl.set d v } else { s with tm:=Mn s.tm d v }
theorem Uo (l:List (Nat×AV)) (d j:Nat) (v:AV) (hv:XA l d=v):XA (Mn l d v) j=XA l j:=by
 induction l with
 |nil=>rfl
 |cons x l ih =>
  obtain⟨i,u⟩:=x;simp only[XA]at hv;simp only[Mn];by_cases hd:d=i
  ·subst hd
   simp at hv;subst hv;simp[XA]
  ·simp only[hd,if_false]at hv
   simp only[hd,if_false,XA]
   split
   ·rfl
   ·exact ih hv
theorem OZ {s:AS}{d:Nat}{v:AV}(hv:s.get d=v):s.eqv (s.fix d v):=by
 unfold AS.fix;by_cases hd:d<s.n0
 ·rw[if_pos hd]
  refine⟨rfl,rfl,by simp,rfl,fun i=>?_⟩;unfold AS.get at hv ⊢;simp only[hd,if_true]at hv;by_cases hi:i<s.n0
  ·simp only[hi,if_true]
   rw[EL];by_cases h:d=i∧i<s.sl.length
   ·rw[if_pos h,←h.1,hv]
   ·rw[if_neg h]
  ·simp only[hi,if_false]
 ·rw[if_neg hd]
  refine⟨rfl,rfl,rfl,rfl,fun i=>?_⟩;unfold AS.get at hv ⊢;simp only[hd,if_false]at hv;by_cases hi:i<s.n0
  ·simp only[hi,if_true]
  ·simp only[hi,if_false]
   exact(Uo _ _ _ _ hv).symm
def Ah:Op→Option (Operand×List Operand)
 | .call { callee:=.value f,args,.. }=>some (f,args.toList)
 |_=>none
mutual
def vc (X:Env):Nat→List Item→AS→Prop
 |0,k,s=>WR X k s
 |n+1,k,s =>
  match k with
  | .code c :: k =>
   match c with
   | .skip=>vc X n k s
   | .label _=>vc X n k s
   | .seq a b=>vc X n (.code a :: .code b :: k) s
   | .block id b=>vc X n (.code b :: .inBlock id :: k) s
   | .scope b=>vc X n (.code b :: .inScope b :: k) s
   | .cond c a b =>
    match s.ev c with
    | .bool t=>(t=true→vc X n (.code a :: k) s)∧(t=false→vc X n (.code b :: k) s)
    | .abool=>vc X n (.code a :: k) s∧vc X n (.code b :: k) s
    |_=>False
   | .exit id =>
    match exitTo id k with
    |some k'=>vc X n k' s
    |none=>False
   | .region id ops draw =>
    if draw then Di X.str id=true∧Xu X n ⟨ops,GQ X.str id,X.hcs.contains id,some (s.frz (Fj X.str id)).h.length,0,(s.frz (Fj X.str id)).h.length⟩ ops.toList k (E6 (X.hcs.contains id) ops (s.frz (Fj X.str id)))
    else Xu X n ⟨ops,GQ X.str id,true,none,0,0⟩ ops.toList k s.clr
   | .ret=>RetOk X s
   |c=>WR X (.code c :: k) s
  | .inBlock _ :: k=>vc X n k s
  | .inScope _ :: k=>vc X n k s
  | []=>RetE X s
  |k=>WR X k s
def Xu (X:Env):Nat→Md→List Oper→List Item→AS→Prop
  |0,M,os,k,s=>ROps X M os k s
  |n+1,M,os,k,s =>
    match os with
    | []=>vc X n k s
    |o :: os =>
      match o.guard with
      |none=>Qh X n M o os k s
      |some (j,want) =>
        match (M.all[j]?).bind (·.dst)with
        |some d =>
          match s.get d with
          | .bool b=>(b=true→if want=true then Qh X n M o os k (s.fix d (.bool true))else Xu X n (M.next o) os k ((s.fix d (.bool true)).putO o.dst XO)) ∧
                       (b=false→if want=false then Qh X n M o os k (s.fix d (.bool false))else Xu X n (M.next o) os k ((s.fix d (.bool false)).putO o.dst XO))
          | .tup []=>Xu X n (M.next o) os k (s.putO o.dst XO)
          |_=>False
        |none=>False
def Qh (X:Env):Nat→Md→Oper→List Oper→List Item→AS→Prop
 |0,_,_,_,_,_=>False
 |n+1,M,o,os,k,s =>
  match Ah o.op with
  |some (f,args)=>FU X M o (s.ev f) (args.map s.ev) (fun s'=>Xu X n (M.next o) os k s') s
  |none =>
   match M.base with
   |none=>XY (QU X.P (M.strict M.i) none o.op s.ev s.h) fun r=>Xu X n (M.next o) os k (({ s with h:=r.2 }:AS).putO o.dst r.1)
   |some _ =>
    if Qx M.hcall o.op=2 then s.h[M.nx]?=some .unborn∧XY (QU X.P (M.strict M.i) (some M.nx) o.op s.ev s.h) fun r=>Xu X n (M.next o) os k (({ s with h:=r.2 }:AS).putO o.dst r.1)
    else XY (QU X.P (M.strict M.i) none o.op s.ev s.h) fun r=>Xu X n (M.next o) os k (({ s with h:=r.2 }:AS).putO o.dst r.1)
end
theorem Md.ok_get {M:Md}{o:Oper}{os:List Oper}(h:M.ok (o :: os)):M.all[M.i]?=some o:=by
 have h1:=h.1;have:(M.all.toList.drop M.i)[0]?=some o:=by rw[h1];rfl
 rw[List.getElem?_drop]at this
 simpa using this
theorem UH {hcall:Bool}{all:Array Oper}{i:Nat}{o:Oper}(ho:all[i]?=some o):Cm hcall all (i+1)=Cm hcall all i+if Qx hcall o.op=2 then 1 else 0:=by
 unfold Cm;have hi:i<all.toList.length:=by simpa using (Array.getElem?_eq_some_iff.1 ho).1
 have h1:(all.toList.take (i+1))=all.toList.take i ++ [o]:=by
  rw[List.take_succ_eq_append_getElem hi];congr 2;have:=(Array.getElem?_eq_some_iff.1 ho).2
  simpa using this
 rw[h1,List.filter_append,List.length_append];by_cases hc:Qx hcall o.op=2 <;> simp[hc]
theorem Md.ok_next {M:Md}{o:Oper}{os:List Oper}(h:M.ok (o :: os)):(M.next o).ok os:=by
 refine⟨?_,?_⟩
 ·have h1:=h.1
  show M.all.toList.drop (M.i+1)=os;rw[←List.tail_drop,h1];rfl
 ·intro b hb
  have hb':M.base=some b:=hb;have hnx:M.nx=b+Cm M.hcall M.all M.i:=h.2 b hb';show(match M.base with |none=>M.nx |some _=>if Qx M.hcall o.op=2 then M.nx+1 else M.nx)=b+Cm M.hcall M.all (M.i+1);rw[hb',UH (Md.ok_get h),hnx];simp only
  split <;> omega
theorem ROps.cons {X:Env}{M:Md}{o:Oper}{os:List Oper}{k:List Item}{s s1:AS}(h1:GStep X.P X.tok M.strict M.hcall M.nid M.all M.i s s1)(h2:ROps X (M.next o) os k s1):ROps X M (o :: os) k s:=by
 obtain⟨s',h3,h4⟩:=h2;refine⟨s',?_,h4⟩;show AExec X.P X.tok M.strict M.hcall M.nid M.all (List.range' M.i (os.length+1)) s s';rw[List.range'_succ];exact⟨s1,h1,h3⟩
theorem MT {op:Op}{f:Operand}{args:List Operand}(h:Ah op=some (f,args)):∃as ts,op=.call { callee:=.value f,args:=as,argTypes:=ts }∧args=as.toList:=by
 unfold Ah at h
 split at h
 ·cases h;exact⟨_,_,rfl,rfl⟩
 ·cases h
theorem Rw {all:Array Oper}{s:AS}{o:Oper}{j d:Nat}{want b:Bool}(hg:o.guard=some (j,want)) (hd:(all[j]?).bind (·.dst)=some d) (hs:s.get d=.bool b):gval all s o=some (b == want):=by
 unfold gval;simp[hg,hd,hs]
theorem kH (X:Env):∀n,(∀k s,vc X n k s→Run X k s)∧(∀M os k s,M.ok os→Xu X n M os k s→ROps X M os k s) ∧
  (∀M o os k s,M.ok (o :: os)→gval M.all s o=some true→Qh X n M o os k s→ROps X M (o :: os) k s)
 |0=>⟨fun k s h=>by simpa [vc,WR]using h,fun M os k s _ h=>by simpa [Xu]using h,fun M o os k s _ _ h=>by simp[Qh]at h⟩
 |n+1=>by
  obtain⟨ih1,ih2,ih3⟩:=kH X n;refine⟨?_,?_,?_⟩
  ·intro k s h
   unfold vc at h
   split at h
   ·rename_i c k
    split at h
    ·exact jS (ih1 _ _ h)
    ·exact aW (ih1 _ _ h)
    ·exact oM (ih1 _ _ h)
    ·exact aU (ih1 _ _ h)
    ·exact aY (ih1 _ _ h)
    ·split at h
     ·rename_i t ht
      refine jM ht ?_;cases t
      ·exact ih1 _ _ (h.2 rfl)
      ·exact ih1 _ _ (h.1 rfl)
     ·rename_i ht
      exact aV ht (ih1 _ _ h.1) (ih1 _ _ h.2)
     ·exact h.elim
    ·split at h
     ·rename_i k' hk
      exact jP hk (ih1 _ _ h)
     ·exact h.elim
    ·rename_i id ops draw
     cases draw with
     |true =>
      simp only[if_true]at h;obtain⟨hfl,h⟩:=h;exact(jN hfl (ih2 _ _ _ _ ⟨by simp,fun b hb=>by cases hb;simp[Cm]⟩ h)).sub (WB _ _ _)
     |false =>
      simp only[Bool.false_eq_true,if_false]at h;exact UO (ih2 _ _ _ _ ⟨by simp,fun b hb=>by cases hb⟩ h)
    ·exact oL h
    ·exact h
   ·exact Ss (ih1 _ _ h)
   ·exact Su (ih1 _ _ h)
   ·exact oI h
   ·exact h
  ·intro M os k s hM h
   unfold Xu at h
   split at h
   ·exact⟨s,rfl,ih1 _ _ h⟩
   ·rename_i o os
    split at h
    ·rename_i hg
     exact ih3 _ _ _ _ _ hM (by simp[gval,hg]) h
    ·rename_i j want hg
     split at h
     ·rename_i d hd
      split at h
      ·rename_i b hs
       have fixed:∀b',b=b'→(s.fix d (.bool b')).get d=.bool b':=fun b' e=>by
        rw[← (OZ (v:=.bool b') (by rw[hs,e])).get d,hs,e]
       have skipped:∀b',b=b'→b'≠want→Xu X n (M.next o) os k ((s.fix d (.bool b')).putO o.dst XO)→ROps X M (o :: os) k s:=by
        intro b' e hne h';refine(ROps.cons ⟨o,Md.ok_get hM,.inr ⟨?_,rfl⟩⟩ (ih2 _ _ _ _ (Md.ok_next hM) h')).eqv (OZ (by rw[hs,e]));rw[Rw hg hd (fixed b' e)]
        simpa using hne
       have taken:∀b',b=b'→b'=want→Qh X n M o os k (s.fix d (.bool b'))→ROps X M (o :: os) k s:=by
        intro b' e hw h';refine(ih3 _ _ _ _ _ hM ?_ h').eqv (OZ (by rw[hs,e]));rw[Rw hg hd (fixed b' e),hw];simp
       cases hb:b with
       |true =>
        have h':=h.1 hb
        split at h'
        ·rename_i hw;exact taken true hb hw.symm h'
        ·rename_i hw;exact skipped true hb (fun e=>hw e.symm) h'
       |false =>
        have h':=h.2 hb
        split at h'
        ·rename_i hw;exact taken false hb hw.symm h'
        ·rename_i hw;exact skipped false hb (fun e=>hw e.symm) h'
      ·rename_i hs
       refine ROps.cons ⟨o,Md.ok_get hM,.inr ⟨?_,rfl⟩⟩ (ih2 _ _ _ _ (Md.ok_next hM) h);unfold gval;simp[hg,hd,hs]
      ·exact h.elim
     ·exact h.elim
  ·intro M o os k s hM hgv h
   unfold Qh at h;have nidN:Qx M.hcall o.op≠2→M.nid M.i=none:=by
    intro hc;have hg:=Md.ok_get hM;unfold Md.nid;cases M.base with
    |none=>rfl
    |some b=>simp[Cj,hg,hc]
   have step:∀v h' nid,M.nid M.i=nid→(∀id,nid=some id→s.h[id]?=some .unborn)→(QU X.P (M.strict M.i) nid o.op s.ev s.h=some (v,h')∨H5 X.P X.tok (M.strict M.i) M.hcall o.op s.ev s.h v h') →
     ROps X (M.next o) os k (({ s with h:=h' }:AS).putO o.dst v)→ROps X M (o :: os) k s:=by
    intro v h' nid hnid hu he hr;exact ROps.cons ⟨o,Md.ok_get hM,.inl ⟨hgv,by rw[hnid];exact hu,v,h',by rw[hnid];exact he,rfl⟩⟩ hr
   split at h
   ·rename_i f args hca
    obtain⟨as,ts,hop,rfl⟩:=MT hca;obtain⟨v,h',hc,hk⟩:=h;have hcls:Qx M.hcall o.op≠2:=by rw[hop];cases M.hcall <;> simp[Qx]
    exact step v h' none (nidN hcls) (fun id hid=>by cases hid) (.inr ⟨f,as,ts,hop,hc⟩) (ih2 _ _ _ _ (Md.ok_next hM) hk)
   ·split at h
    ·rename_i hbase
     obtain⟨⟨v,h'⟩,ha,hk⟩:=h;exact step v h' none (by simp[Md.nid,hbase]) (fun id hid=>by cases hid) (.inl ha) (ih2 _ _ _ _ (Md.ok_next hM) hk)
    ·rename_i b hbase
     split at h
     ·rename_i hc
      obtain⟨hu,⟨v,h'⟩,ha,hk⟩:=h;have hnid:M.nid M.i=some M.nx:=by
       unfold Md.nid;simp only[hbase];unfold Cj;simp only[Md.ok_get hM,hc,if_true,hM.2 b hbase]
      exact step v h' (some M.nx) hnid (fun id hid=>by cases hid;exact hu) (.inl ha) (ih2 _ _ _ _ (Md.ok_next hM) hk)
     ·rename_i hc
      obtain⟨⟨v,h'⟩,ha,hk⟩:=h;exact step v h' none (nidN hc) (fun id hid=>by cases hid) (.inl ha) (ih2 _ _ _ _ (Md.ok_next hM) hk)
theorem kO {X:Env}(n:Nat){k:List Item}{s:AS}(h:vc X n k s):Run X k s:=(kH X n).1 k s h
end
end Go.Ab
