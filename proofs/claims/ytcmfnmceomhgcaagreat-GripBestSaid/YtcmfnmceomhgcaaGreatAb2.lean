/- A layer of abstract values and heaps over the model; what is proved here is that its steps and contracts are sound, for every program. -/
import Derived.Test.YtcmfnmceomhgcaaGreatAb1
set_option linter.unusedSimpArgs false
set_option linter.unusedVariables false
open Array renaming getD→ZAO,all_eq_true_iff_forall_mem→ZCg,getElem_mem→ZCi,any_eq_true→ZCk,mem_of_getElem?→ZDV,toArray_toList→ZDb
open Bool renaming or_eq_true→ZBt,false_eq_true→ZD7
open Go.Call renaming operands→ZCE
open Go.Deferred renaming ofValue→ZCc
open Go.Fence renaming wide→ZB1
open Go.Machine renaming fenced→ZCv
open Go.Op renaming operands→ZBa
open Go.Oper renaming apart_spec→ZCP
open Go.Region renaming binds→ZBX,wanted→ZEK
open Go.Result renaming andThen_ok→ZAR
open Go.Sem renaming run_bind→ZAp
open List renaming range→ZAD,replicate→ZAJ,set_comm→ZAw,set_append_left→ZBM,mem_cons_of_mem→ZBq,range'→ZCX,pairwise_cons→ZCd,filter_cons→ZC8,getElem?_append→ZDn,pairwise_append→ZDq,range_eq_range'→ZDr,filter_append→ZD8
open Option renaming isSome_iff_exists→ZBU,map_none→ZEC
open Option.some renaming injEq→s_,inj→ZEB
open Prod.mk renaming injEq→zX
namespace Go.Ab
open Go Go.RowKit
theorem L_:type_of%@List.getElem?_set_ne:=@List.getElem?_set_ne
theorem U':type_of%@List.getElem?_set_self:=@List.getElem?_set_self
theorem V_:type_of%@List.length_set:=@List.length_set
theorem m_:type_of%@List.mem_append:=@List.mem_append
theorem ZAL:type_of%@List.map_congr_left:=@List.map_congr_left
theorem ZAs:type_of%@List.getElem?_replicate:=@List.getElem?_replicate
theorem ZBc:type_of%@List.mem_range:=@List.mem_range
theorem ZCV:type_of%@List.take_succ_eq_append_getElem:=@List.take_succ_eq_append_getElem
theorem ZCW:type_of%@List.take_of_length_le:=@List.take_of_length_le
theorem ZCj:type_of%@Iff.rfl:=@Iff.rfl
noncomputable section
def Kept (c:Ctx)(l:Nat)(o:Obj):Prop:=c.w.heap[l]?=some o∧¬c.S l∧¬Ai c l
theorem Kept.lt {c:Ctx}{l:Nat}{o:Obj}(h:Kept c l o):l<c.w.heap.size:=(c_.1 h.1).1
theorem Kept.ext {m:Nat}{c c':Ctx}{l:Nat}{o:Obj}(h:Kept c l o)(hx:TAc m c c'):Kept c' l o:=by
 have hlt:=h.lt;refine⟨(hx.same l hlt h.2.2).trans h.1,fun hs=>?_,fun ho=>?_⟩
 ·rcases hx.TA5 l hs with h1 |h1 |h1
  ·exact h.2.1 h1
  ·omega
  ·exact h.2.2 h1
 ·rcases hx.TAx l ho with h1 |h1
  ·omega
  ·exact h.2.2 h1
structure AS where
 n0:Nat
 hid:List Nat
 sl:List AV
 tm:List (Nat×AV)
 h:List AO
structure Tok where
 l:Nat
 r:Loop
 ce:Ctx
def TAT (c:Ctx)(t:Tok):Prop:=Kept c t.l (.loop t.r)∧Ext t.ce c
theorem TAT.ext {c c':Ctx}{t:Tok}(h:TAT c t)(hx:Ext c c'):TAT c' t:=⟨h.1.ext (hx.toB 0),h.2.trans hx⟩
theorem TAT.TFI {m:Nat}{c c':Ctx}{t:Tok}(h:TAT c t)(hm:t.ce.H.length≤m)(hx:TAc m c c'):TAT c' t:=⟨h.1.ext hx,((h.2.toB m).trans hx).TCI hm⟩
def XJ:List (Nat×AV)→Nat→AV
 | [],_=>.any
 | (i,v) :: l,j=>if j=i then v else XJ l j
def AS.get (s:AS)(i:Nat):AV:=if i<s.n0 then s.sl.getD i .any else XJ s.tm i
def AS.put (s:AS)(i:Nat)(v:AV):AS:=if i<s.n0 then { s with sl:=s.sl.set i v } else { s with tm:=(i,v) :: s.tm }
def AS.E' (s:AS)(d:Option Nat)(v:AV):AS:=match d with |some i=>s.put i v |none=>s
def AS.clr (s:AS):AS:={ s with tm:=s.tm.filter fun p=>s.hid.contains p.1 }
def AS.ev (s:AS):Operand→AV
 | .tmp t=>s.get t
 | .const v=>Ou v
 | .global _=>.any
 | .func f=>.fn f []
structure St (N:Nat)(c:Ctx)(a:Act)(s:AS):Prop where
 size:a.tmps.size=N
 defers:a.defers=[]
 TAP:∀i,Rep c (a.tmps.getD i undef) (s.get i)
 heap:c.H=s.h
 H_:I' c
theorem St.ev {N:Nat}{c:Ctx}{a:Act}{s:AS}(h:St N c a s)(x:Operand):Rep c (a.eval x) (s.ev x):=by
 cases x with
 |tmp t=>exact h.TAP t
 |const v=>exact YP c v
 |global g=>exact .any _
 |func f=>exact .fn f #[] [] rfl (by simp)
@[simp] theorem TF9 (s:AS)(i:Nat)(v:AV):(s.put i v).h=s.h:=by unfold AS.put;split <;> rfl
@[simp] theorem TAz (s:AS)(d:Option Nat)(v:AV):(s.E' d v).h=s.h:=by cases d <;> simp[AS.E']
theorem Yf (s:AS)(i j:Nat)(v:AV):(s.put i v).get j=v∧j=i∨(s.put i v).get j=.any∨(j≠i∧(s.put i v).get j=s.get j):=by
 unfold AS.put AS.get;by_cases hi:i<s.n0
 ·simp only[hi,if_true]
  by_cases hj:j<s.n0
  ·simp only[hj,if_true,Fm]
   by_cases hij:i=j∧j<s.sl.length
   ·rw[N_ hij];exact .inl ⟨rfl,hij.1.symm⟩
   ·rw[M_ hij]
    by_cases he:j=i
    ·subst he
     right;left;have:¬j<s.sl.length:=fun h=>hij ⟨rfl,h⟩
     simp[K',j_ (Nat.le_of_not_lt this)]
    ·exact .inr (.inr ⟨he,by first |rfl |trivial⟩)
  ·simp only[hj,if_false]
   exact .inr (.inr ⟨by omega,by first |rfl |trivial⟩)
 ·simp only[hi,if_false]
  by_cases hj:j<s.n0
  ·simp only[hj,if_true]
   exact .inr (.inr ⟨by omega,by first |rfl |trivial⟩)
  ·simp only[hj,if_false,XJ]
   by_cases he:j=i
   ·rw[N_ he];exact .inl ⟨rfl,he⟩
   ·rw[M_ he];exact .inr (.inr ⟨he,by first |rfl |trivial⟩)
theorem St.E' {N:Nat}{c c':Ctx}{a:Act}{s:AS}(h:St N c a s)(hx:Ext c c')(hr:I' c'){d:Option Nat}{x:Value}{v:AV}(hv:Rep c' x v)(hd:∀i,d=some i→i<N) :
  St N c' (a.put d x) (({ s with h:=c'.H }:AS).E' d v):=by
 cases d with
 |none=>exact⟨h.size,h.defers,fun i=>hx.rep h.H_ (h.TAP i),rfl,hr⟩
 |some i =>
  refine⟨by simp[Act.put,h.size],h.defers,fun j=>?_,by simp[AS.E'],hr⟩;simp only[AS.E',Act.put];have hi:=hd i rfl;rw[OD];rcases Yf ({ s with h:=c'.H }:AS) i j v with⟨h1,h2⟩ |h1 | ⟨h1,h2⟩
  ·rw[h1,N_ ⟨h2.symm,by rw[h2,h.size];exact hi⟩];exact hv
  ·rw[h1];exact .any _
  ·rw[h2,M_ (fun e=>h1 e.1.symm)];exact hx.rep h.H_ (h.TAP j)
theorem EF (p:Nat→Bool):∀ (l:List (Nat×AV)) (j:Nat),XJ (l.filter fun x=>p x.1) j=XJ l j∨XJ (l.filter fun x=>p x.1) j=.any
 | [],_=>.inl rfl
 | (i,v) :: l,j=>by
  simp only[ZC8];by_cases hp:p i=true
  ·simp only[hp,if_true,XJ]
   by_cases he:j=i
   ·simp[he]
   ·simp only[he,if_false];exact EF p l j
  ·simp only[hp,XJ]
   by_cases he:j=i
   ·right
    subst he;have:∀l:List (Nat×AV),XJ (l.filter fun x=>p x.1) j=.any:=by
     intro l
     induction l with
     |nil=>rfl
     |cons x l ih =>
      obtain⟨i',v'⟩:=x;simp only[ZC8];by_cases hp':p i'=true
      ·simp only[hp',if_true,XJ]
       have:j≠i':=fun e=>hp (e▸hp')
       simp only[this,if_false];exact ih
      ·simp only[hp'];exact ih
    exact this l
   ·simp only[he,if_false];exact EF p l j
theorem St.clr {N:Nat}{c:Ctx}{a:Act}{s:AS}(h:St N c a s):St N c a s.clr:=by
 refine⟨h.size,h.defers,fun i=>?_,h.heap,h.H_⟩;have h1:=h.TAP i;unfold AS.get AS.clr at *;by_cases hi:i<s.n0
 ·simpa [hi]using h1
 ·simp only[hi,if_false]at h1 ⊢
  rcases EF (fun i=>s.hid.contains i) s.tm i with e |e
  ·rw[e];exact h1
  ·rw[e];exact .any _
def NS (c:Ctx):Nat→Prop:=fun b=>c.S b∨Ai c b
def A_ (a:AV):Prop:=∀c v,Rep c v a→Rep (.bare c.w c.S) v a
def Zs (H:List AO)(a a':AV):Prop:=∀c v,c.H=H→I' c→Rep c v a→Rep (.bare c.w (NS c)) v a'
def od (a:AV):Prop:=∀c c' v,Rep c v a→Rep c' v a
theorem A_.TBH {a:AV}(h:A_ a)(H:List AO):Zs H a a:=fun c v _ _ hv =>
 (h c v hv).ext (fun _ hb=>.inl hb) (fun _ _=>rfl) (HLe.refl _)
theorem Jm:A_ .any:=fun _ v _=>.any v
theorem X5 (b:Bool):A_ (.bool b):=fun _ _ h=>by cases h;exact .bool _
theorem Jn (k:IntKind)(n:Int):A_ (.int k n):=fun _ _ h=>by cases h;exact .int _ _
theorem KX:A_ .nil:=fun _ _ h=>by cases h;exact .nil
theorem QF {n m:Nat}{f:Nat→AV}{t:Bool}(hf:∀j,j<m→A_ (f j)):A_ (.sl n m f t):=fun c v h=>by
 cases h with
 |sl b base _ _ cap _ _ us hS hc hr hn ht=>exact .sl b base n m cap f t us hS hc (fun j hj=>hf j hj c _ (hr j hj)) hn ht
 |slz a cap _ _ ht=>exact .slz _ _ _ _ ht
theorem XP {m off:Nat}{f:Nat→AV}(hf:∀j,j<m→A_ (f j)):A_ (.ptr m f off):=fun c v h=>by
 cases h with
 |ptr b base _ _ _ us hS hc hr=>exact .ptr b base m off f us hS hc (fun j hj=>hf j hj c _ (hr j hj))
theorem QD {l:List AV}(hl:∀a∈l,A_ a):A_ (.agg l):=fun c v h=>by
 cases h with
 |agg vs _ hs hr=>exact .agg vs l hs fun j hj=>hl _ (by rw[K',U_ hj];exact ZAP _) c _ (hr j hj)
theorem Z0 {l:List AV}(hl:∀a∈l,A_ a):A_ (.tup l):=fun c v h=>by
 cases h with
 |tup vs _ hs hr=>exact .tup vs l hs fun j hj=>hl _ (by rw[K',U_ hj];exact ZAP _) c _ (hr j hj)
theorem Kd {g:FuncId}{l:List AV}(hl:∀a∈l,A_ a):A_ (.fn g l):=fun c v h=>by
 cases h with
 |fn _ vs _ hs hr=>exact .fn g vs l hs fun j hj=>hl _ (by rw[K',U_ hj];exact ZAP _) c _ (hr j hj)
theorem TX {g:FuncId}{a:AV}(ha:A_ a):A_ (.mfn g a):=fun c v h=>by
 cases h with
 |mfn _ v _ hv=>exact .mfn g v a (ha c v hv)
theorem Kc {H:List AO}{id ver es off n m M:Nat}{f g:Nat→AV}(ho:H[id]?=some (.row ver m f)∨H[id]?=some (.con ver m f)) (hle:off+M≤m) (hM:n=0→M=0) (hf:∀j,j<M→Zs H (f (off+j)) (g j)) :
  Zs H (.osl id ver es off n) (.sl n M g false):=by
 rintro c v rfl hr h;have J_:inf c.H id=some ver:=by rcases ho with h |h <;> simp[inf,h,AO.info]
 have hns:¬TAd c.H id ver:=by
  rintro(⟨v',hi,hlt⟩ |hd)
  ·rw[J_]at hi;cases hi;omega
  ·simp[inf,hd,AO.info]at J_
 have hn0:n=0→Rep (.bare c.w (NS c)) v (.sl n M g false):=by
  intro hn;subst hn;rw[hM rfl];cases h with
  |osl _ _ _ _ _ cap b sz hi hg hn TAY hmx=>exact .slz _ _ _ _ (by simp)
  |TAg _ _ _ _ a hi=>exact .slz _ _ _ _ (by simp)
  |TAL _ _ _ _ _ a cap hn hs=>exact absurd hs hns
  |TAE _ _ _ _ a hs=>exact absurd hs hns
 cases h with
 |osl _ _ _ _ _ cap b sz hi hg hn TAY hmx =>
  have key:∀cs el fr,c.w.heap[b]?=some (.cells cs el fr)→m≤cs.size→(∀j,j<m→Rep c (cs.getD j undef) (f j))→NS c b→Rep (.bare c.w (NS c)) (.slice (some ⟨b,off,none⟩) n cap) (.sl n M g false):=by
   intro cs el fr hh hm hrr hS;refine .sl b off n M cap g false (fun j=>cs.getD (off+j) undef) hS (fun j hj=>?_) (fun j hj=>hf j hj c _ rfl hr (hrr _ (by omega))) hn (by simp);have hlt:off+j<cs.size:=by omega
   show c.w.cell? _=_;rw[cell_of_row c.w b _ cs el fr hh];simp[hlt,ZAO]
  rcases ho with ho |ho
  ·rcases hr.row id ver m f ho with⟨h1,_⟩ | ⟨b',sz',cs,el,h1,h2,h3,h4,h5,h6⟩
   ·rw[h1]at hg;cases hg
   ·rw[h1]at hg;cases hg
    exact key cs el _ h2 (by omega) h6 (.inr ⟨id,_,sz,ho,rfl,h1⟩)
  ·rcases hr.con id ver m f ho with⟨h1,_⟩ | ⟨b',sz',cs,el,fr,h1,h2,h3,h4,h5,h6⟩
   ·rw[h1]at hg;cases hg
   ·rw[h1]at hg;cases hg
    exact key cs el _ h2 (by omega) h6 (.inl h5)
 |TAg _ _ _ _ a hi=>exact hn0 rfl
 |TAL _ _ _ _ _ a cap hn hs=>exact absurd hs hns
 |TAE _ _ _ _ a hs=>exact absurd hs hns
theorem mE {H:List AO}{id ver off m:Nat}{f g:Nat→AV}(ho:H[id]?=some (.row ver m f)∨H[id]?=some (.con ver m f)) (hm:0<m) (hf:∀j,j<m→Zs H (f j) (g j)) :
  Zs H (.ref id ver off) (.ptr m g off):=by
 rintro c v rfl hr h;have J_:inf c.H id=some ver:=by rcases ho with h |h <;> simp[inf,h,AO.info]
 have hns:¬TAd c.H id ver:=by
  rintro(⟨v',hi,hlt⟩ |hd)
  ·rw[J_]at hi;cases hi;omega
  ·simp[inf,hd,AO.info]at J_
 cases h with
 |ref _ _ _ b sz hi hg =>
  have key:∀cs el fr,c.w.heap[b]?=some (.cells cs el fr)→m≤cs.size→(∀j,j<m→Rep c (cs.getD j undef) (f j))→NS c b→Rep (.bare c.w (NS c)) (.pointer (some ⟨b,off,none⟩)) (.ptr m g off):=by
   intro cs el fr hh hmm hrr hS;have:=Rep.ptr (c:=.bare c.w (NS c)) b 0 m off g (fun j=>cs.getD j undef) hS (fun j hj=>ZL hh hmm j hj) (fun j hj=>hf j hj c _ rfl hr (hrr _ hj));rwa[x_]at this
  rcases ho with ho |ho
  ·rcases hr.row id ver m f ho with⟨h1,h2⟩ | ⟨b',sz',cs,el,h1,h2,h3,h4,h5,h6⟩
   ·omega
   ·rw[h1]at hg;cases hg
    exact key cs el _ h2 (by omega) h6 (.inr ⟨id,_,sz,ho,rfl,h1⟩)
  ·rcases hr.con id ver m f ho with⟨h1,h2⟩ | ⟨b',sz',cs,el,fr,h1,h2,h3,h4,h5,h6⟩
   ·omega
   ·rw[h1]at hg;cases hg
    exact key cs el _ h2 (by omega) h6 (.inl h5)
 |TAQ _ _ _ a hs=>exact absurd hs hns
def TBQ (H:List AO):List AV→List AV→Prop
 | [],[]=>True
 |a :: l,a' :: l'=>Zs H a a'∧TBQ H l l'
 |_,_=>False
theorem TBQ.spec {H:List AO}:∀ {l l':List AV},TBQ H l l'→l.length=l'.length∧∀j,j<l.length→Zs H (l.getD j .any) (l'.getD j .any)
 | [],[],_=>⟨rfl,by simp⟩
 |a :: l,a' :: l',h=>by
  obtain⟨h1,h2⟩:=h;obtain⟨h3,h4⟩:=TBQ.spec h2;refine⟨by simp[h3],fun j hj=>?_⟩;cases j with
  |zero=>simpa using h1
  |succ j=>simpa using h4 j (by simpa using hj)
theorem Du {H:List AO}{l l':List AV}(h:TBQ H l l'):Zs H (.agg l) (.agg l'):=by
 rintro c v rfl hr hv;obtain⟨h1,h2⟩:=h.spec;cases hv with
 |agg vs _ hs hrr=>exact .agg vs l' (by omega) fun j hj=>h2 j (by omega) c _ rfl hr (hrr j (by omega))
theorem Dv {H:List AO}{l l':List AV}(h:TBQ H l l'):Zs H (.tup l) (.tup l'):=by
 rintro c v rfl hr hv;obtain⟨h1,h2⟩:=h.spec;cases hv with
 |tup vs _ hs hrr=>exact .tup vs l' (by omega) fun j hj=>h2 j (by omega) c _ rfl hr (hrr j (by omega))
theorem rA {H:List AO}{g:FuncId}{l l':List AV}(h:TBQ H l l'):Zs H (.fn g l) (.fn g l'):=by
 rintro c v rfl hr hv;obtain⟨h1,h2⟩:=h.spec;cases hv with
 |fn _ vs _ hs hrr=>exact .fn g vs l' (by omega) fun j hj=>h2 j (by omega) c _ rfl hr (hrr j (by omega))
theorem cT (b:Bool):od (.bool b):=fun _ _ _ h=>by cases h;exact .bool _
theorem jP (k:IntKind)(n:Int):od (.int k n):=fun _ _ _ h=>by cases h;exact .int _ _
variable {tok:List Tok}
def Cf (P:Program)(f:FuncId):Prop:=∀vs w,(callFunc f vs).run P w=.ok (.enter f vs) w
def TA3 (P:Program)(f:FuncId)(args:List AV)(r:AV):Prop :=
 Cf P f∧∀ (w:World) (S:Nat→Prop) (vs:Array Value),(∀b,S b→b<w.heap.size)→TAF (.bare w S) vs args →
  Calls P f vs w fun e w'=>∃v S',e=.returned v∧Rep (.bare w' S') v r∧(∀b,S' b→b<w'.heap.size)∧Ext (.bare w S) (.bare w' S')
def G' (P:Program)(f:FuncId)(args:List AV)(H:List AO)(r:AV)(H':List AO):Prop :=
 Cf P f∧∀ (c:Ctx) (vs:Array Value),c.H=H→I' c→TAF c vs args →
  Calls P f vs c.w fun e w'=>∃v S' γ',e=.returned v∧Rep ⟨w',S',γ',H'⟩ v r∧I' ⟨w',S',γ',H'⟩∧Ext c ⟨w',S',γ',H'⟩
def gu (h h2:List AO):Prop:=∀id:Nat,h[id]?≠some .D_→h2[id]?=h[id]?
def K1 (h h':List AO):Prop:=∀ (id v n:Nat) (f:Nat→AV),h[id]?=some (.con v n f)↔h'[id]?=some (.con v n f)
def B_ (a b:AV):Prop:=∀ (c:Ctx) (v:Value),Rep c v a→Rep c v b
def TAR:List AV→List AV→Prop
 | [],[]=>True
 |a :: l,b :: m=>B_ a b∧TAR l m
 |_,_=>False
theorem B_.C' (a:AV):B_ a a:=fun _ _ h=>h
theorem Wq (a:AV):B_ a a.loose:=fun _ _ h=>h.loose
theorem Lb:∀l:List AV,TAR l (l.map AV.loose)
 | []=>trivial
 |a :: l=>⟨Wq a,Lb l⟩
theorem X1:∀l:List AV,TAR l l
 | []=>trivial
 |a :: l=>⟨B_.C' a,X1 l⟩
theorem TAR.spec {c:Ctx}:∀ {l m:List AV},TAR l m→l.length=m.length∧∀j,j<l.length→∀v,Rep c v (l.getD j .any)→Rep c v (m.getD j .any)
 | [],[],_=>⟨rfl,fun j hj=>absurd hj (ZAG j)⟩
 |a :: l,b :: m,h=>by
  obtain⟨h1,h2⟩:=TAR.spec (c:=c) h.2;refine⟨by simp[h1],fun j hj v hv=>?_⟩;cases j with
  |zero=>exact h.1 c v (by simpa using hv)
  |succ j=>simpa using h2 j (by simpa using hj) v (by simpa using hv)
 | [],_ :: _,h=>h.elim
 |_ :: _,[],h=>h.elim
theorem TAF.TDH {c:Ctx}{vs:Array Value}{l m:List AV}(h:TAF c vs l)(hw:TAR l m):TAF c vs m :=
 ⟨h.1.trans (hw.spec (c:=c)).1,fun j hj=>(hw.spec (c:=c)).2 j (by rw[(hw.spec (c:=c)).1];exact hj) _ (h.2 j (by rw[(hw.spec (c:=c)).1];exact hj))⟩
def TBf (P:Program)(t:Tok)(args:List AV)(H:List AO)(v:AV)(H':List AO):Prop :=
 ∀ (c:Ctx) (vs:Array Value),c.H=H→I' c→TAT c t→TAF c vs args→∃f tmps assign body,(Instr.yield t.l vs).run P c.w=.ok (.round t.l f tmps assign body) c.w ∧
  RoundIn ZB1 0 P t.l f tmps assign body c.w fun e w'=>∃x S' γ',e=.returned x∧Rep ⟨w',S',γ',H'⟩ x v∧I' ⟨w',S',γ',H'⟩∧Ext c ⟨w',S',γ',H'⟩
def AV.callee:AV→List AV→Option ((FuncId ⊕ Nat)×List AV)
 | .fn g G_,args=>some (.inl g,args ++ G_)
 | .mfn g a,args=>some (.inl g,a :: args)
 | .yld l,args=>some (.inr l,args)
 |_,_=>none
def sJ (P:Program):FuncId ⊕ Nat→List AV→AV→Prop
 | .inl g,args,r=>TA3 P g args r
 | .inr _,_,_=>False
def uu (P:Program)(tok:List Tok):FuncId ⊕ Nat→List AV→List AO→AV→List AO→Prop
 | .inl g,args,H,v,H'=>G' P g args H v H'
 | .inr l,args,H,v,H'=>∃t,t∈tok∧t.l=l∧TBf P t args H v H'
def Pr (P:Program)(tok:List Tok)(strict B':Bool)(fv:AV)(args:List AV)(h:List AO)(v:AV)(h':List AO):Prop :=
  ∃g full,fv.callee args=some (g,full) ∧
    ((∃as',TAR full as'∧sJ P g as' v∧(∀a∈as',A_ a)∧h'=h) ∨
     (strict=false∧∃TB1,TBQ h (full.map AV.loose) TB1∧sJ P g TB1 v∧od v∧h'=h) ∨
     (B'=true∧∃as',TAR full as'∧∃E:List AO→List AO,(∀h2,gu h h2→uu P tok g as' h2 v (E h2))∧E h=h'∧K1 h h' ∧
       (∀ (h2:List AO) (id:Nat) (ob:AO),gu h h2→h[id]?=some .D_→E (h2.set id ob)=(E h2).set id ob)∧∀id:Nat,h[id]?=some .D_→h'[id]?=some .D_))
theorem EN {c:Ctx}{vs us:Array Value}{l m:List AV}(h1:TAF c vs l)(h2:TAF c us m):TAF c (vs ++ us) (l ++ m):=by
 refine⟨by simp[h1.1,h2.1],fun j hj=>?_⟩;simp only[r_,K'];by_cases hjl:j<l.length
 ·rw[Array.getElem?_append_left (by rw[h1.1];exact hjl),S_ hjl]
  have:=h1.2 j hjl
  simpa [r_,K']using this
 ·rw[Array.getElem?_append_right (by rw[h1.1];omega),d_ (by omega),h1.1]
  have:=h2.2 (j-l.length) (by simp at hj;omega)
  simpa [r_,K']using this
theorem Mw {c:Ctx}(hr:I' c){w':World}{S S':Nat→Prop}(hx:Ext (.bare c.w S) (.bare w' S')) (hb:∀b,S' b→b<w'.heap.size) (T:Nat→Prop)
  (hT:∀b,T b→S' b) (hT2:∀b,c.S b→T b) (hT3:∀b,T b→c.S b∨c.w.heap.size≤b):I' ⟨w',T,c.γ,c.H⟩∧Ext c ⟨w',T,c.γ,c.H⟩:=by
 have TAl:∀b,b<c.w.heap.size→w'.heap[b]?=c.w.heap[b]?:=fun b hb=>hx.same b hb Do
 have J':Ext c ⟨w',T,c.γ,c.H⟩:=⟨HLe.refl c,hT2,fun b h=>(hT3 b h).imp id .inl,fun b h=>.inr h,fun b hb _=>TAl b hb,hx.size,hx.os,hx.tape,hx.output⟩
 refine⟨⟨?_,?_,?_,hr.inj,fun b h=>hb b (hT b h)⟩,J'⟩
 ·intro id v n f ho
  rcases hr.row id v n f ho with h | ⟨b,sz,cs,el,h1,h2,h3,h4,h5,h6⟩
  ·exact .inl h
  ·have hlt:=(c_.1 h2).1
   exact .inr ⟨b,sz,cs,el,h1,(TAl b hlt).trans h2,h3,h4,fun ht=>by rcases hT3 b ht with h |h;exact h5 h;omega,fun j hj=>J'.rep hr (h6 j hj)⟩
 ·intro id v n f ho
  rcases hr.con id v n f ho with h | ⟨b,sz,cs,el,fr,h1,h2,h3,h4,h5,h6⟩
  ·exact .inl h
  ·have hlt:=(c_.1 h2).1
   exact .inr ⟨b,sz,cs,el,fr,h1,(TAl b hlt).trans h2,h3,h4,hT2 b h5,fun j hj=>J'.rep hr (h6 j hj)⟩
 ·intro id k g ho
  obtain⟨b,sz,es,cl,h1,h2,h3,h4⟩:=hr.map id k g ho;have hlt:=(c_.1 h2).1;exact⟨b,sz,es,cl,h1,(TAl b hlt).trans h2,fun ht=>by rcases hT3 b ht with h |h;exact h3 h;omega,h4.ext fun v a hv=>J'.rep hr hv⟩
theorem IL {w:World}{S:Nat→Prop}{v:Value}{a:AV}(h:Rep (.bare w S) v a) (γ:Nat→Option (Nat×Nat)) (H:List AO):Rep ⟨w,S,γ,H⟩ v a :=
 h.ext (fun _ h=>h) (fun _ _=>rfl) (fun id o ho=>by simp[Ctx.bare]at ho)
def g9 (P:Program)(c:Ctx)(run:Result Next)(v:AV)(h':List AO):Prop :=
 (∃g vs,run=.ok (.enter g vs) c.w∧Calls P g vs c.w fun e w'=>∃x S' γ',e=.returned x∧Rep ⟨w',S',γ',h'⟩ x v∧I' ⟨w',S',γ',h'⟩∧Ext c ⟨w',S',γ',h'⟩) ∨
 (∃l f tmps assign body,run=.ok (.round l f tmps assign body) c.w∧RoundIn ZB1 0 P l f tmps assign body c.w fun e w'=>∃x S' γ',e=.returned x∧Rep ⟨w',S',γ',h'⟩ x v∧I' ⟨w',S',γ',h'⟩∧Ext c ⟨w',S',γ',h'⟩)
theorem NW {P:Program}{c:Ctx}(hr:I' c)(TAj:∀ p∈tok,TAT c p){strict B':Bool}{fv:AV}{x:Value}{args:Array Value}{as:List AV}(hf:Rep c x fv)(ha:TAF c args as){v:AV}{h':List AO}
  (h:Pr P tok strict B' fv as c.H v h') (ty:TypeId) {o:Operand} {ρ:Operand→Value} (ho:ρ o=x) (os:Array Operand) (hos:os.map ρ=args) (ts:Array TypeId) :
  g9 P c ((do let d ←resolve ρ { callee:=.value o,args:=os,argTypes:=ts } ty;invoke d.target d.args:Sem Next).run P c.w) v h':=by
 obtain⟨g,full,TCr,h⟩:=h;have key:∀ (g0:FuncId) (vs:Array Value),g=.inl g0→TAF c vs full→(∀ (he:Cf P g0),(do let d ←resolve ρ { callee:=.value o,args:=os,argTypes:=ts } ty;invoke d.target d.args:Sem Next).run P c.w=.ok (.enter g0 vs) c.w) →
   g9 P c ((do let d ←resolve ρ { callee:=.value o,args:=os,argTypes:=ts } ty;invoke d.target d.args:Sem Next).run P c.w) v h':=by
  rintro g0 vs rfl TCL I_;left;have TBK:TAF c vs (full.map AV.loose):=TCL.loose;rcases h with⟨as',TCM,⟨he,hc⟩,hs,rfl⟩ | ⟨_,as',TFJ,⟨he,hc⟩,TEV,rfl⟩ | ⟨_,as',TCM,E,hE,rfl,_⟩
  ·have TBK:=TCL.TDH TCM
   refine⟨g0,_,I_ he,(hc c.w c.S vs hr.bound ⟨TBK.1,fun j hj=>hs _ (by rw[K',U_ hj];exact ZAP _) c _ (TBK.2 j hj)⟩).mono ?_⟩;rintro e w' ⟨x,S',rfl,hx,hb,J'⟩;obtain⟨g1,g2⟩:=Mw hr J' hb S' (fun _ h=>h) J'.TAe (fun b h=>by
    rcases J'.TA5 b h with h |h |h
    ·exact .inl h
    ·exact .inr h
    ·exact absurd h Do)
   exact⟨x,S',c.γ,rfl,IL hx _ _,g1,g2⟩
  ·obtain⟨hlen,hsp⟩:=TFJ.spec
   have hb0:∀b,NS c b→b<c.w.heap.size:=fun b h=>h.elim (hr.bound b) hr.TBG
   refine⟨g0,_,I_ he,(hc c.w (NS c) vs hb0 ⟨by rw[TBK.1,hlen],fun j hj=>hsp j (by omega) c _ rfl hr (TBK.2 j (by omega))⟩).mono ?_⟩;rintro e w' ⟨x,S',rfl,hx,hb,J'⟩;obtain⟨g1,g2⟩:=Mw hr J' hb c.S (fun b h=>J'.TAe b (.inl h)) (fun _ h=>h) (fun b h=>.inl h);exact⟨x,c.S,c.γ,rfl,TEV _ _ _ hx,g1,g2⟩
  ·have TBK:=TCL.TDH TCM
   obtain⟨he,hc⟩:=hE c.H (fun _ _=>rfl);refine⟨g0,_,I_ he,(hc c vs rfl hr TBK).mono ?_⟩;rintro e w' ⟨x,S',γ',rfl,h1,h2,h3⟩;exact⟨x,S',γ',rfl,h1,h2,h3⟩
 unfold AV.callee at TCr
 split at TCr
 ·rename_i g0 G_
  cases TCr;cases hf;rename_i vs hl hrr;exact key g0 (args ++ vs) rfl (EN ha ⟨hl,hrr⟩) fun he=>by simp[resolve,ZCc,ho,hos,invoke,he (args ++ vs) c.w]
 ·rename_i g0 a
  cases TCr;cases hf;rename_i v0 hv0;have h1:TAF c #[v0] [a]:=⟨rfl,fun j hj=>by
   obtain rfl:j=0:=by simpa using hj
   exact hv0⟩
  exact key g0 (#[v0] ++ args) rfl (EN h1 ha) fun he=>by simp[resolve,ZCc,ho,hos,invoke,he (#[v0] ++ args) c.w]
 ·rename_i l
  cases TCr;cases hf;rcases h with⟨as',_,hp,_⟩ | ⟨_,as',_,hp,_⟩ | ⟨_,as',TCM,E,hE,rfl,_⟩
  ·exact hp.elim
  ·exact hp.elim
  ·right
   obtain⟨t,TAU,rfl,hy⟩:=hE c.H (fun _ _=>rfl);obtain⟨f,tmps,assign,body,h1,h2⟩:=hy c args rfl hr (TAj _ TAU) (ha.TDH TCM);refine⟨t.l,f,tmps,assign,body,?_,h2⟩;simp[resolve,ZCc,ho,hos,invoke,h1]
 ·cases TCr
def TAv (all:Array Oper)(s:AS)(o:Oper):Option Bool :=
 match o.guard with
 |none=>some true
 |some (j,want) =>
  match (all[j]?).bind (·.dst)with
  |some d=>match s.get d with
   | .bool b=>some (b == want)
   | .tup []=>some false
   |_=>none
  |none=>none
def HP (P:Program)(tok:List Tok)(strict B':Bool)(op:Op)(ρ:Operand→AV)(h:List AO)(v:AV)(h':List AO):Prop :=
 ∃f args ts,op=.call { callee:=.value f,args:=args,argTypes:=ts }∧Pr P tok strict B' (ρ f) (args.toList.map ρ) h v h'
def uw (P:Program)(tok:List Tok)(strict B':Bool)(nid:Option Nat)(o:Oper)(s s1:AS):Prop :=
 (∀id,nid=some id→s.h[id]?=some .D_)∧∃v h',(Jb P strict nid o.op s.ev s.h=some (v,h')∨HP P tok strict B' o.op s.ev s.h v h')∧s1=({ s with h:=h' }:AS).E' o.dst v
def GStep (P:Program)(tok:List Tok)(strict:Nat→Bool)(B':Bool)(nid:Nat→Option Nat)(all:Array Oper)(i:Nat)(s s1:AS):Prop :=
 ∃o,all[i]?=some o∧((TAv all s o=some true∧uw P tok (strict i) B' (nid i) o s s1)∨(TAv all s o=some false∧s1=s.E' o.dst XW))
theorem Gx {all:Array Oper}{N:Nat}{c:Ctx}{a:Act}{s:AS}(hst:St N c a s){o:Oper}{b:Bool}(hN:∀ o∈all.toList,∀ i,o.dst=some i→i<N)(h:TAv all s o=some b) :
  ZEK o (yielded all a.tmps)=b:=by
 unfold TAv at h;unfold ZEK;cases hg:o.guard with
 |none=>simp[hg]at h;simp[h]
 |some q =>
  obtain⟨j,want⟩:=q;simp only[hg]at h;cases hd:(all[j]?).bind (·.dst)with
  |none=>simp[hd]at h
  |some d =>
   simp only[hd]at h;have hdN:d<N:=by
    cases hoj:all[j]? with
    |none=>simp[hoj]at hd
    |some oj =>
     simp[hoj]at hd;exact hN oj (by simpa using ZDV hoj) d hd
   have TB2:=hst.TAP d;have TAM:a.tmps[d]?=some (a.tmps.getD d undef):=by
    have:d<a.tmps.size:=by rw[hst.size];exact hdN
    simp[ZAO,this]
   cases hv:s.get d with
   |bool b' =>
    rw[hv]at TB2 h;simp at h;generalize a.tmps.getD d undef=q at TB2 TAM;cases TB2;simp[yielded,hd,TAM,←h]
   |tup l =>
    rw[hv]at TB2 h;cases l with
    |nil =>
     simp at h;generalize a.tmps.getD d undef=q at TB2 TAM;cases TB2;simp[yielded,hd,TAM,←h]
    |cons _ _=>simp at h
   |_=>rw[hv]at h;simp at h
def A0 (r:Option Nat):Fence:={ ZB1 with round:=r }
theorem NZ (r:Option Nat)(P:Program):ZCv P (A0 r)=ZCv P ZB1:=rfl
theorem EW {r:Option Nat}{P:Program}{m m':Machine}:StepsIn (ZCv P (A0 r)) P m m'↔Steps P m m':=by rw[NZ];exact stepsIn_wide
theorem IM (r:Option Nat)(n:Nat):(A0 r).room n:=room_wide n
theorem Mc {r:Option Nat}{n:Nat}{P:Program}{f:FuncId}{args:Array Value}{w:World}{R:Ending→World→Prop}(h:Calls P f args w R):CallsIn (A0 r) n P f args w R :=
 (callsIn_wide (n:=n)).2 h
theorem Cq (a:Act)(ds:List Deferred)(d:Option Nat)(v:Value):({ a with defers:=ds }:Act).put d v={ a.put d v with defers:=ds }:=by cases d <;> rfl
theorem GStep.sound {P:Program}{strict:Nat→Bool}{B':Bool}{nid:Nat→Option Nat}{all:Array Oper}{i:Nat}{s s1:AS}{N:Nat}{c:Ctx}{a:Act}{ro:Option Nat}{ds:List Deferred}(hst:St N c a s)(TAj:∀p∈tok,TAT c p)
  (hN:∀o∈all.toList,∀i,o.dst=some i→i<N) (h:GStep P tok strict B' nid all i s s1) {K:Act→World→Prop} {Q:Exit→Act→World→Prop}
  (hK:∀a' c',St N c' a' s1→Ext c c'→K { a' with defers:=ds } c'.w):wpOpIn (A0 ro) 0 P all Q i K { a with defers:=ds } c.w:=by
 obtain⟨o,ho,h⟩:=h;have hdN:∀i,o.dst=some i→i<N:=hN o (by simpa using ZDV ho);unfold wpOpIn;simp only[ho];have TAl:({ s with h:=c.H }:AS)=s:=by rw[hst.heap]
 rcases h with⟨hg,TAi,v,h',h,rfl⟩ | ⟨hg,rfl⟩
 ·rw[Gx hst hN hg]
  simp only[if_true];unfold Oper.wpIn;refine⟨fun _ _=>trivial,?_⟩;rcases h with h | ⟨f,args,ts,hop,h⟩
  ·rw[Oper.semAt_eq _ _ _ (fun q e=>by rw[e]at h;simp[Jb]at h)]
   rw[←hst.heap]at h;obtain⟨x,w',S',γ',I_,h1,h2,h3⟩:=aW hst.H_ (by rw[hst.heap];exact TAi) (fun x=>hst.ev x) (fun _=>rfl) h;have fin:=hst.E' h3 h2 (d:=o.dst) h1 hdN;rcases I_ with I_ | ⟨I_,rfl⟩
   ·rw[show(execOp ({ a with defers:=ds }:Act).eval o).run P c.w=_ from I_,Oper.uponIn_value,Cq];exact hK _ ⟨w',S',γ',h'⟩ fin h3
   ·rw[show(execOp ({ a with defers:=ds }:Act).eval o).run P c.w=_ from I_,Oper.uponIn_skip,Cq];exact hK _ ⟨w',S',γ',h'⟩ fin h3
  ·rw[Oper.semAt_eq _ _ _ (fun q e=>by rw[hop]at e;cases e)]
   rw[←hst.heap]at h;have hrl:=H4 (c:=c) (ρv:=a.eval) (ρ:=s.ev) (fun x=>hst.ev x) args;have hex:∀nx,((do let d ←resolve a.eval { callee:=.value f,args:=args,argTypes:=ts } o.type;invoke d.target d.args:Sem Next).run P c.w)=.ok nx c.w→(execOp ({ a with defers:=ds }:Act).eval o).run P c.w=.ok nx c.w:=fun nx I_=>by
    rw[←I_];unfold execOp;rw[hop];rfl
   have fin:∀w' x S' γ',Rep ⟨w',S',γ',h'⟩ x v→I' ⟨w',S',γ',h'⟩→Ext c ⟨w',S',γ',h'⟩→K (({ a with defers:=ds }:Act).put o.dst x) w':=fun w' x S' γ' h1 h2 h3=>by
    have:=hK _ ⟨w',S',γ',h'⟩ (hst.E' h3 h2 (d:=o.dst) h1 hdN) h3;rw[←Cq]at this;exact this
   rcases NW hst.H_ TAj (hst.ev f) hrl h o.type (o:=f) (ρ:=a.eval) rfl args rfl ts with⟨g,vs,I_,TDt⟩ | ⟨l,g,tmps,assign,body,I_,TDu⟩
   ·rw[hex _ I_,Oper.uponIn_enter]
    refine⟨fun e=>by simp[A0,ZB1]at e,Mc (TDt.mono ?_)⟩;rintro e w' ⟨x,S',γ',rfl,h1,h2,h3⟩;exact fin _ _ _ _ h1 h2 h3
   ·rw[hex _ I_,Oper.uponIn_round]
    refine⟨fun e=>by simp[A0,ZB1]at e,RoundIn.mono (F:=A0 ro) (R:=fun e w'=>∃x S' γ',e=.returned x∧Rep ⟨w',S',γ',h'⟩ x v∧I' ⟨w',S',γ',h'⟩∧Ext c ⟨w',S',γ',h'⟩) TDu ?_⟩;rintro e w' ⟨x,S',γ',rfl,h1,h2,h3⟩;exact fin _ _ _ _ h1 h2 h3
 ·rw[Gx hst hN hg]
  simp only[ZD7,if_false];have:=hst.E' (Ext.refl c) hst.H_ (d:=o.dst) (Pc c) hdN;rw[TAl]at this;have:=hK _ c this (Ext.refl c);rw[←Cq]at this;exact⟨fun _ _=>trivial,this⟩
def TAb (P:Program)(tok:List Tok)(strict:Nat→Bool)(B':Bool)(nid:Nat→Option Nat)(all:Array Oper):List Nat→AS→AS→Prop
 | [],s,s'=>s'=s
 |i :: l,s,s'=>∃s1,GStep P tok strict B' nid all i s s1∧TAb P tok strict B' nid all l s1 s'
theorem TAb.sound {P:Program}{strict:Nat→Bool}{B':Bool}{nid:Nat→Option Nat}{all:Array Oper}{N:Nat}{ro:Option Nat}{ds:List Deferred}(hN:∀ o∈all.toList,∀ i,o.dst=some i→i<N){Q:Exit→Act→World→Prop}:∀ (l:List Nat) {s s':AS} {c:Ctx} {a:Act},St N c a s→(∀p∈tok,TAT c p) →
  TAb P tok strict B' nid all l s s'→(∀a' c',St N c' a' s'→Ext c c'→Q .normal { a' with defers:=ds } c'.w)→wpOpsIn (A0 ro) 0 P all Q l { a with defers:=ds } c.w
 | [],s,s',c,a,hst,TAj,h,hQ=>by
  cases h;exact hQ a c hst (Ext.refl c)
 |i :: l,s,s',c,a,hst,TAj,h,hQ=>by
  obtain⟨s1,h1,h2⟩:=h;rw[wpOpsIn_cons];refine h1.sound hst TAj hN fun a' c' TAt hx=>?_
  exact TAb.sound hN l TAt (fun p hp=>(TAj p hp).ext hx) h2 fun a'' c'' TCN hx'=>hQ a'' c'' TCN (hx.trans hx')
variable {tok:List Tok}
def QH (B':Bool):Op→Nat
 | .move _=>0
 | .assign _=>0
 | .pick ..=>0
 | .nilCheck _=>0
 | .binOp ..=>0
 | .unOp ..=>0
 | .convert ..=>0
 | .fieldAddr ..=>0
 | .field ..=>0
 | .indexAddr ..=>0
 | .sliceToArrayPointer ..=>0
 | .index ..=>0
 | .extract ..=>0
 | .slice ..=>0
 | .makeFunc ..=>0
 | .build ..=>0
 | .buildSlice ..=>0
 | .call { callee:=.builtin .len,.. }=>0
 | .call { callee:=.builtin .min,.. }=>0
 | .call { callee:=.builtin .max,.. }=>0
 | .call { callee:=.builtin .cap,.. }=>0
 | .load ..=>1
 | .call { callee:=.value _,.. }=>if B' then 3 else 1
 | .alloc _=>2
 | .box ..=>2
 | .makeSlice ..=>2
 | .makeMap ..=>2
 |_=>3
def Ck:Op→Bool
 | .load ..=>true
 |_=>false
def QB (P:Program)(tok:List Tok)(strict B':Bool)(nid:Option Nat)(op:Op)(ρ:Operand→AV)(h:List AO)(v:AV)(h':List AO):Prop :=
 Jb P strict nid op ρ h=some (v,h')∨HP P tok strict B' op ρ h v h'
theorem Jf {P:Program}{strict B':Bool}{op:Op}{ρ:Operand→AV}{h h':List AO}{v:AV}(hc:HP P tok strict B' op ρ h v h'):∃f args ts,op=.call { callee:=.value f,args:=args,argTypes:=ts } :=
 let ⟨f,args,ts,e,_⟩:=hc; ⟨f,args,ts,e⟩
def Id:Op→Bool
 | .buildSlice ..=>true
 |_=>false
theorem jr {P:Program}{strict B':Bool}{nid:Option Nat}{op:Op}{ρ:Operand→AV}{h h':List AO}{v:AV}(hc:QH B' op=0)(hb:strict=true→Id op=false)(he:QB P tok strict B' nid op ρ h v h') :
  h'=h∧∀k,QB P tok strict B' nid op ρ k v k:=by
 rcases he with he |he
 ·have TBL:∀ {o:Option AV},(o.map fun v=>(v,h))=some (v,h')→h'=h∧∀k:List AO,(o.map fun v=>(v,k))=some (v,k):=by
   intro o ho;cases o with
   |none=>simp at ho
   |some x=>simp at ho;obtain⟨rfl,rfl⟩:=ho;exact⟨rfl,fun k=>rfl⟩
  unfold Jb at he
  split at he
  case h_1 x=>cases he;exact⟨rfl,fun k=>.inl rfl⟩
  case h_2 x=>cases he;exact⟨rfl,fun k=>.inl rfl⟩
  case h_3 cc a b =>
   split at he
   ·cases he;rename_i e;exact⟨rfl,fun k=>.inl (by simp[Jb,e])⟩
   ·cases he;rename_i e;exact⟨rfl,fun k=>.inl (by simp[Jb,e])⟩
   ·cases he
  case h_4=>simp[QH]at hc
  case h_5=>simp[QH]at hc
  case h_6=>obtain⟨h1,h2⟩:=TBL he;exact⟨h1,fun k=>.inl (h2 k)⟩
  case h_7 =>
   cases strict with
   |true=>have:=hb rfl;simp[Id]at this
   |false =>
    obtain⟨h1,h2⟩:=TBL he;exact⟨h1,fun k=>.inl (h2 k)⟩
  case h_8=>simp[QH]at hc
  case h_9=>simp[QH]at hc
  case h_10 x =>
   obtain⟨h1,h2⟩:=Xg he;cases h2;exact⟨rfl,fun k=>.inl (by simp[Jb,Qd,h1])⟩
  case h_11=>obtain⟨h1,h2⟩:=TBL he;exact⟨h1,fun k=>.inl (h2 k)⟩
  case h_12=>obtain⟨h1,h2⟩:=TBL he;exact⟨h1,fun k=>.inl (h2 k)⟩
  case h_13=>obtain⟨h1,h2⟩:=TBL he;exact⟨h1,fun k=>.inl (h2 k)⟩
  case h_14 f first G_=>obtain⟨h1,h2⟩:=TBL he;exact⟨h1,fun k=>.inl (h2 k)⟩
  case h_15=>simp[QH]at hc
  case h_16=>simp[QH]at hc
  case h_17 t x lo hi mx =>
   obtain⟨h0,he⟩:=Xg he;obtain⟨h1,h2⟩:=TBL he;exact⟨h1,fun k=>.inl (by unfold Jb;simp only;rw[←h2 k];unfold Qd;rw[N_ h0])⟩
  case h_18=>obtain⟨h1,h2⟩:=TBL he;exact⟨h1,fun k=>.inl (h2 k)⟩
  case h_19=>obtain⟨h1,h2⟩:=TBL he;exact⟨h1,fun k=>.inl (h2 k)⟩
  case h_20=>obtain⟨h1,h2⟩:=TBL he;exact⟨h1,fun k=>.inl (h2 k)⟩
  case h_21=>obtain⟨h1,h2⟩:=TBL he;exact⟨h1,fun k=>.inl (h2 k)⟩
  case h_22=>obtain⟨h1,h2⟩:=TBL he;exact⟨h1,fun k=>.inl (h2 k)⟩
  case h_23=>simp[QH]at hc
  case h_24=>simp[QH]at hc
  case h_25=>simp[QH]at hc
  case h_26 x i =>
   split at he
   ·rename_i l e
    obtain⟨h1,h2⟩:=Xg he;cases h2;exact⟨rfl,fun k=>.inl (by simp only[Jb,e];unfold Qd;rw[N_ h1])⟩
   ·cases he
  case h_27 args ts =>
   split at he
   ·rename_i x t h1 h2
    obtain⟨h3,h4⟩:=TBL he;exact⟨h3,fun k=>.inl (by simp only[Jb,h1,h2];exact h4 k)⟩
   ·cases he
  case h_28 args ts =>
   split at he
   ·rename_i x y h1
    obtain⟨h3,h4⟩:=TBL he;exact⟨h3,fun k=>.inl (by simp only[Jb,h1];exact h4 k)⟩
   ·cases he
  case h_29 args ts =>
   split at he
   ·rename_i x y h1
    obtain⟨h3,h4⟩:=TBL he;exact⟨h3,fun k=>.inl (by simp only[Jb,h1];exact h4 k)⟩
   ·cases he
  case h_30=>simp[QH]at hc
  case h_31 args ts =>
   split at he
   ·rename_i x t h1 h2
    obtain⟨h3,h4⟩:=TBL he;exact⟨h3,fun k=>.inl (by simp only[Jb,h1,h2];exact h4 k)⟩
   ·cases he
  case h_32=>simp[QH]at hc
  case h_33=>simp[QH]at hc
  case h_34=>cases he
 ·obtain⟨f,args,ts,rfl⟩:=Jf he
  cases B' <;> simp[QH]at hc
theorem cM {P:Program}{strict B':Bool}{nid:Option Nat}{op:Op}{ρ:Operand→AV}{h h':List AO}{v:AV}(hc:QH B' op=1)(he:QB P tok strict B' nid op ρ h v h') :
  h'=h∧(strict=true→∀k,(∀ (id v n:Nat) (f:Nat→AV),h[id]?=some (.con v n f)→k[id]?=some (.con v n f))→QB P tok strict B' nid op ρ k v k):=by
 cases op <;> try(simp[QH]at hc;done)
 case load t a =>
  rcases he with he |he
  ·simp only[Jb]at he
   cases hl:Qx P strict t (ρ a) h with
   |none=>simp[hl]at he
   |some x =>
    simp[hl]at he;obtain⟨rfl,rfl⟩:=he;refine⟨rfl,?_⟩;rintro rfl k hk;left;simp only[Jb];have:Qx P true t (ρ a) k=some x:=by
     unfold Qx at hl ⊢;cases hd:CD P t with
     |none=>simp[hd]at hl
     |some kk =>
      simp only[hd]at hl ⊢;cases ha:ρ a with
      |ptr m f off=>simpa [ha]using hl
      |ref id ver off =>
       simp only[ha]at hl ⊢;cases ho:h[id]? with
       |none=>simp[ho]at hl
       |some o =>
        cases o with
        |row v m f=>simp only[ho]at hl;have:=(Xg hl).1.1;cases this
        |con v m f=>rw[hk id v m f ho];simpa [ho]using hl
        |_=>simp[ho]at hl
      |_=>simp[ha]at hl
    simp[this]
  ·obtain⟨f,args,ts,e⟩:=Jf he;cases e
 case call c =>
  obtain⟨callee,args,ts⟩:=c;cases callee with
  |builtin b=>cases b <;> simp[QH]at hc
  |invoke r m=>simp[QH]at hc
  |value f =>
   cases B' with
   |true=>simp[QH]at hc
   |false =>
    rcases he with he | ⟨f',TB1,ts',e,g,G_,hf,H_⟩
    ·simp[Jb]at he
    ·cases e
     rcases H_ with⟨as',hw,h1,h2,h3⟩ | ⟨h1,as',h2,h3,h4,h5⟩ | ⟨h1,_⟩
     ·exact⟨h3,fun _ k _=>.inr ⟨f,args,ts,rfl,g,G_,hf,.inl ⟨as',hw,h1,h2,rfl⟩⟩⟩
     ·exact⟨h5,fun hs=>by rw[h1]at hs;cases hs⟩
     ·cases h1
theorem yX {P:Program}{strict B':Bool}{id:Nat}{op:Op}{ρ:Operand→AV}{h h':List AO}{v:AV}(hc:QH B' op=2)(he:QB P tok strict B' (some id) op ρ h v h') :
  ∃ob:AO,ob.owned=true∧h'=h.set id ob∧∀k,QB P tok strict B' (some id) op ρ k v (k.set id ob):=by
 rcases he with he |he
 ·cases op <;> try(simp[QH]at hc;done)
  case alloc t =>
   simp only[Jb,Bf]at he;cases hz:Qj P t with
   |none=>simp[hz]at he
   |some z =>
    simp[hz,QL,KI]at he;obtain⟨rfl,rfl⟩:=he;exact⟨.row 0 z.length (Xf z),rfl,rfl,fun k=>.inl (by simp[Jb,Bf,hz,QL,KI])⟩
  case box t x =>
   simp only[Jb,NN]at he;obtain⟨h1,h2⟩:=Xg he;simp only[QL,KI,ZBH,s_,zX]at h2;obtain⟨rfl,rfl⟩:=h2;exact⟨_,rfl,rfl,fun k=>.inl (by simp only[Jb,NN];unfold Qd;rw[N_ h1];rfl)⟩
  case makeSlice t l cp =>
   simp only[Jb,Ed]at he
   split at he
   ·rename_i e s b k1 n k2 m h1 h2 h3
    cases hz:Qj P e with
    |none=>simp[hz]at he
    |some z =>
     simp only[hz]at he;obtain⟨h4,h5⟩:=Xg he;simp only[QL,KI,ZBH,s_,zX]at h5;obtain⟨rfl,rfl⟩:=h5;exact⟨_,rfl,rfl,fun k=>.inl (by simp only[Jb,Ed,h1,h2,h3,hz];unfold Qd;rw[N_ h4];rfl)⟩
   ·cases he
  case makeMap t r =>
   cases r with
   |some r=>simp[Jb]at he
   |none =>
    simp only[Jb,Er]at he
    split at he
    ·rename_i kt et h1
     split at he
     ·rename_i k h2
      simp only[QL,KI,ZBH,s_,zX]at he;obtain⟨rfl,rfl⟩:=he;exact⟨_,rfl,rfl,fun k=>.inl (by simp only[Jb,Er,h1,h2];rfl)⟩
     ·cases he
    ·cases he
  case call c =>
   obtain⟨callee,args,ts⟩:=c;cases callee with
   |builtin b=>cases b <;> simp[QH]at hc
   |invoke r m=>simp[QH]at hc
   |value f=>cases B' <;> simp[QH]at hc
 ·obtain⟨f,args,ts,rfl⟩:=Jf he
  cases B' <;> simp[QH]at hc
theorem LY {s:Nat}{y:AV}{h:List AO}{r:Nat×(Nat→AV)} {id:Nat} {ob:AO} (hu:h[id]?=some .D_) (hs:Db s y h=some r):Db s y (h.set id ob)=some r:=by
 unfold Db at hs ⊢;cases y with
 |osl i ver es off n =>
  by_cases hi:id=i
  ·subst hi;simp[hu]at hs
  ·simpa [L_ hi]using hs
 |_=>exact hs
theorem SA {P:Program}{strict B':Bool}{nid:Option Nat}{op:Op}{ρ:Operand→AV}{h h':List AO}{v:AV}(he:QB P tok strict B' nid op ρ h v h'){id:Nat}{ob:AO}(hu:h[id]?=some .D_)
  (hne:nid≠some id) (TEW:strict=true∨Ck op=true∨QH B' op=0∨(∀f args ts,op≠.call { callee:=.value f,args:=args,argTypes:=ts })) :
  QB P tok strict B' nid op ρ (h.set id ob) v (h'.set id ob)∧h'[id]?=some .D_:=by
 have hlt:id<h.length:=(R_.1 hu).1;by_cases hb:strict=true∧Id op=true
 ·obtain⟨rfl,hbs⟩:=hb
  cases op <;> simp only[Id]at hbs <;> try(cases hbs;done)
  rename_i t n ps;rcases he with he |he
  ·replace he:Zo P t n (ps.toList.map fun p=>(p.1,ρ p.2)) h=some (v,h'):=he
   have hg:QB P tok true B' nid (.buildSlice t n ps) ρ (h.set id ob) v (h'.set id ob)↔_:=ZCj;unfold Zo at he;cases hel:AK P t with
   |none=>rw[hel]at he;cases he
   |some q =>
    obtain⟨e1,s1,b1⟩:=q;rw[hel]at he;cases hab:Ki P t n (ps.toList.map fun p=>(p.1,ρ p.2))with
    |none=>rw[hab]at he;cases he
    |some w =>
     rw[hab]at he;cases w <;> simp only[s_,zX]at he <;> try(cases he;done)
     obtain⟨rfl,rfl⟩:=he;refine⟨.inl ?_,by rw[S_ hlt];exact hu⟩;show Zo P t n (ps.toList.map fun p=>(p.1,ρ p.2)) (h.set id ob)=_;unfold Zo;rw[hel,hab];simp only[V_];rw[ZBM _ _ hlt]
  ·obtain⟨f,args,ts,e⟩:=Jf he;cases e
 by_cases h0:QH B' op=0
 ·obtain⟨rfl,h2⟩:=jr h0 (fun hs=>by cases hq:Id op with |true=>exact absurd ⟨hs,hq⟩ hb |false=>rfl) he
  exact⟨h2 _,hu⟩
 have other:∀ {i:Nat} {o:AO},h[i]?=some o→o≠.D_→i≠id:=by
  rintro i o ho hn rfl;rw[hu]at ho;cases ho;exact hn rfl
 have TBR:∀ {i:Nat},i≠id→(h.set id ob)[i]?=h[i]?:=fun hi=>L_ (v_ hi)
 have new:∀ (o:AO),KI nid (h.set id ob) o=(KI nid h o).set id ob∧(KI nid h o)[id]?=some .D_∧QL nid (h.set id ob)=QL nid h:=by
  intro o;cases nid with
  |none =>
   refine⟨?_,?_,by simp[QL]⟩
   ·simp only[KI];rw[ZBM _ _ hlt]
   ·simp only[KI];rw[S_ hlt];exact hu
  |some j =>
   have hj:j≠id:=fun e=>hne (by rw[e])
   refine⟨?_,?_,rfl⟩
   ·simp only[KI];rw[ZAw _ _ (v_ hj)]
   ·simp only[KI];rw[L_ hj];exact hu
 rcases he with he |he
 ·cases op <;> try(first |exact absurd rfl h0 | (simp[Jb]at he;done))
  case load t a =>
   simp only[Jb]at he;cases hl:Qx P strict t (ρ a) h with
   |none=>simp[hl]at he
   |some x =>
    simp[hl]at he;obtain⟨rfl,rfl⟩:=he;refine⟨.inl ?_,hu⟩;simp only[Jb];have:Qx P strict t (ρ a) (h.set id ob)=some x:=by
     unfold Qx at hl ⊢;cases hd:CD P t with
     |none=>simp[hd]at hl
     |some kk =>
      simp only[hd]at hl ⊢;cases ha:ρ a with
      |ptr m f off=>simpa [ha]using hl
      |ref i ver off =>
       simp only[ha]at hl ⊢;cases ho:h[i]? with
       |none=>simp[ho]at hl
       |some o =>
        have hi:i≠id:=other ho (by rintro rfl;simp[ho]at hl);rw[TBR hi];exact hl
      |_=>simp[ha]at hl
    simp[this]
  case store t a x =>
   simp only[Jb]at he;cases hl:Zv P strict t (ρ a) (ρ x) h with
   |none=>simp[hl]at he
   |some h1 =>
    simp[hl]at he;obtain⟨rfl,rfl⟩:=he;unfold Zv at hl;cases ha:ρ a with
    |ref i ver off =>
     simp only[ha]at hl;cases ho:h[i]? with
     |none=>simp[ho]at hl
     |some o =>
      have hi:i≠id:=other ho (by rintro rfl;simp[ho]at hl);simp only[ho]at hl;cases o with
      |row v' m f =>
       obtain⟨h2,h3⟩:=Xg hl;cases h3;refine⟨.inl ?_,by rw[L_ hi];exact hu⟩;simp only[Jb,Zv,ha,TBR hi,ho];unfold Qd;rw[N_ h2,ZAw _ _ (v_ hi)];rfl
      |_=>simp at hl
    |_=>simp[ha]at hl
  case alloc t =>
   simp only[Jb,Bf]at he;cases hz:Qj P t with
   |none=>simp[hz]at he
   |some z =>
    simp[hz]at he;obtain⟨rfl,rfl⟩:=he;obtain⟨e1,e2,e3⟩:=new (.row 0 z.length (Xf z));exact⟨.inl (by simp[Jb,Bf,hz,e1,e3]),e2⟩
  case box t x =>
   simp only[Jb,NN]at he;obtain⟨h1,h2⟩:=Xg he;simp only[s_,zX]at h2;obtain⟨rfl,rfl⟩:=h2;obtain⟨e1,e2,e3⟩:=new (.row 0 (ρ x).cells.length (Xf ((ρ x).cells.map AV.boxed)));exact⟨.inl (by simp only[Jb,NN];unfold Qd;rw[N_ h1,e1,e3]),e2⟩
  case makeSlice t l cp =>
   simp only[Jb,Ed]at he
   split at he
   ·rename_i e s b k1 n k2 m h1 h2 h3
    cases hz:Qj P e with
    |none=>simp[hz]at he
    |some z =>
     simp only[hz]at he;obtain⟨h4,h5⟩:=Xg he;simp only[s_,zX]at h5;obtain⟨rfl,rfl⟩:=h5;obtain⟨e1,e2,e3⟩:=new (.row 0 (n.toNat*s) (KT z));exact⟨.inl (by simp only[Jb,Ed,h1,h2,h3,hz];unfold Qd;rw[N_ h4,e1,e3]),e2⟩
   ·cases he
  case makeMap t r =>
   cases r with
   |some r=>simp[Jb]at he
   |none =>
    simp only[Jb,Er]at he
    split at he
    ·rename_i kt et h1
     split at he
     ·rename_i k h2
      simp only[s_,zX]at he;obtain⟨rfl,rfl⟩:=he;obtain⟨e1,e2,e3⟩:=new (.map k fun _=>none);exact⟨.inl (by simp only[Jb,Er,h1,h2,e1,e3]),e2⟩
     ·cases he
    ·cases he
  case lookup t x i ok =>
   simp only[Jb]at he;cases hl:DC P t (ρ x) (ρ i) ok h with
   |none=>simp[hl]at he
   |some y =>
    simp[hl]at he;obtain⟨rfl,rfl⟩:=he;refine⟨.inl ?_,hu⟩;simp only[Jb];have:DC P t (ρ x) (ρ i) ok (h.set id ob)=some y:=by
     unfold DC at hl ⊢
     split at hl
     ·rename_i kt et ik n h1 h2
      split at hl
      ·rename_i k z h3 h4
       split at hl
       ·rename_i h5;exact hl
       ·exact hl
       ·rename_i j h5
        cases ho:h[j]? with
        |none=>simp[ho]at hl
        |some o =>
         have hj:j≠id:=other ho (by rintro rfl;simp[ho]at hl);simp only[TBR hj];exact hl
       ·cases hl
      ·cases hl
     ·cases hl
    simp[this]
  case mapUpdate t m k x =>
   simp only[Jb]at he;cases hl:Zq P t (ρ m) (ρ k) (ρ x) h with
   |none=>simp[hl]at he
   |some h1 =>
    simp[hl]at he;obtain⟨rfl,rfl⟩:=he;unfold Zq at hl
    split at hl
    ·rename_i kt et j ik n e1 e2 e3
     split at hl
     ·rename_i kk k' g e4 ho
      have hj:j≠id:=other ho (by simp);obtain⟨h2,h3⟩:=Xg hl;cases h3;refine⟨.inl ?_,by rw[L_ hj];exact hu⟩;simp only[Jb,Zq,e1,e2,e3,e4,TBR hj,ho];unfold Qd;rw[N_ h2,ZAw _ _ (v_ hj)];rfl
     ·cases hl
    ·cases hl
  case insert t m k x =>
   simp only[Jb]at he;cases hl:Zq P t (ρ m) (ρ k) (ρ x) h with
   |none=>simp[hl]at he
   |some h1 =>
    simp[hl]at he;obtain⟨rfl,rfl⟩:=he;unfold Zq at hl
    split at hl
    ·rename_i kt et j ik n e1 e2 e3
     split at hl
     ·rename_i kk k' g e4 ho
      have hj:j≠id:=other ho (by simp);obtain⟨h2,h3⟩:=Xg hl;cases h3;refine⟨.inl ?_,by rw[L_ hj];exact hu⟩;simp only[Jb,Zq,e1,e2,e3,e4,TBR hj,ho];unfold Qd;rw[N_ h2,ZAw _ _ (v_ hj)];rfl
     ·cases hl
    ·cases hl
  case call c =>
   obtain⟨callee,args,ts⟩:=c;cases callee with
   |invoke r m=>simp[Jb]at he
   |value f=>simp[Jb]at he
   |builtin b =>
    cases b <;> try(first | (simp[Jb]at he;done) | (exact absurd rfl h0))
    case clear =>
     simp only[Jb]at he
     split at he
     ·rename_i x t e1 e2
      have hap:G9 P t (ρ x) h=some (v,h')→G9 P t (ρ x) (h.set id ob)=some (v,h'.set id ob)∧h'[id]?=some .D_:=by
       intro h2;unfold G9 at h2 ⊢;cases hel:AK P t with
       |none=>simp[hel]at h2
       |some q =>
        obtain⟨e,s,by_⟩:=q;simp only[hel]at h2 ⊢;cases hx:ρ x with
        |osl i ver es off n =>
         simp only[hx]at h2 ⊢;cases ho:h[i]? with
         |none=>simp[ho]at h2
         |some o =>
          have hi:i≠id:=other ho (by rintro rfl;simp[ho]at h2);simp only[TBR hi,ho]at h2 ⊢;cases o with
          |row v' k f =>
           obtain⟨h3,h4⟩:=Xg h2;simp only[s_,zX]at h4;obtain⟨rfl,rfl⟩:=h4;refine⟨?_,by rw[L_ hi];exact hu⟩
           dsimp only
           unfold Qd;rw[N_ h3,ZAw _ _ (v_ hi)]
          |_=>simp at h2
        |_=>simp[hx]at h2
      refine⟨.inl ?_,(hap he).2⟩;simp only[Jb,e1,e2];exact(hap he).1
     ·cases he
    case copy =>
     simp only[Jb]at he
     split at he
     ·rename_i x y t t' e1 e2
      have hap:FQ P t (ρ x) (ρ y) h=some (v,h')→FQ P t (ρ x) (ρ y) (h.set id ob)=some (v,h'.set id ob)∧h'[id]?=some .D_:=by
       intro h2;unfold FQ at h2 ⊢;cases hel:AK P t with
       |none=>simp[hel]at h2
       |some q =>
        obtain⟨e,s,by_⟩:=q;simp only[hel]at h2 ⊢;cases hsr:Db s (ρ y) h with
        |none=>simp[hsr]at h2
        |some q =>
         obtain⟨m,g⟩:=q;simp only[hsr]at h2;simp only[LY (ob:=ob) hu hsr];cases hx:ρ x with
         |osl i ver es off n =>
          simp only[hx]at h2 ⊢;cases ho:h[i]? with
          |none=>simp[ho]at h2
          |some o =>
           have hi:i≠id:=other ho (by rintro rfl;simp[ho]at h2);simp only[TBR hi,ho]at h2 ⊢;cases o with
           |row v' k f =>
            obtain⟨h3,h4⟩:=Xg h2;simp only[s_,zX]at h4;obtain⟨rfl,rfl⟩:=h4;refine⟨?_,by rw[L_ hi];exact hu⟩
            dsimp only
            unfold Qd;rw[N_ h3,ZAw _ _ (v_ hi)]
           |_=>simp at h2
         |_=>simp[hx]at h2
      refine⟨.inl ?_,(hap he).2⟩;simp only[Jb,e1,e2];exact(hap he).1
     ·cases he
    case append =>
     simp only[Jb]at he
     split at he
     ·rename_i x y t t' e1 e2
      have hz:K3 P t t' (ρ x) (ρ y) h=some (v,h')→K3 P t t' (ρ x) (ρ y) (h.set id ob)=some (v,h'.set id ob)∧h'[id]?=some .D_:=by
       intro h2;unfold K3 at h2 ⊢
       split at h2
       ·split at h2
        ·rename_i z hz
         obtain⟨h3,h4⟩:=Xg h2;simp only[s_,zX]at h4;obtain⟨rfl,rfl⟩:=h4;refine⟨?_,by rw[S_ hlt];exact hu⟩;unfold Qd;rw[N_ h3,ZBM _ _ hlt,V_]
        ·cases h2
       ·split at h2
        ·split at h2
         ·rename_i h0
          cases h2;exact⟨N_ h0,hu⟩
         ·rename_i h0
          obtain⟨h3,h4⟩:=Xg h2;simp only[s_,zX]at h4;obtain⟨rfl,rfl⟩:=h4;refine⟨?_,by rw[S_ hlt];exact hu⟩;unfold Qd;simp only[M_ h0];rw[N_ h3,ZBM _ _ hlt,V_]
        ·cases h2
       ·rename_i i ver es off N n _ _ _ _
        split at h2
        ·cases ho:h[i]? with
         |none=>simp[ho]at h2
         |some o =>
          have hi:i≠id:=other ho (by rintro rfl;simp[ho]at h2);simp only[TBR hi,ho]at h2 ⊢;cases o with
          |row v' k f =>
           simp only at h2 ⊢;by_cases h0:n=0
           ·rw[N_ h0]at h2 ⊢
            cases h2;exact⟨rfl,hu⟩
           ·rw[M_ h0]at h2 ⊢
            obtain⟨h3,h4⟩:=Xg h2;simp only[s_,zX]at h4;obtain⟨rfl,rfl⟩:=h4;refine⟨?_,by rw[L_ hi];exact hu⟩;unfold Qd;rw[N_ h3,ZAw _ _ (v_ hi)]
          |_=>simp at h2
        ·cases h2
       ·cases h2
      have hap:QW P t (ρ x) (ρ y) h=some (v,h')→QW P t (ρ x) (ρ y) (h.set id ob)=some (v,h'.set id ob)∧h'[id]?=some .D_:=by
       intro h2;unfold QW at h2 ⊢;cases hel:AK P t with
       |none=>simp[hel]at h2
       |some q =>
        obtain⟨e,s,by_⟩:=q;simp only[hel]at h2 ⊢;cases hsr:Db s (ρ y) h with
        |none=>simp[hsr]at h2
        |some q =>
         obtain⟨m,g⟩:=q;simp only[hsr]at h2;simp only[LY (ob:=ob) hu hsr];cases hx:ρ x with
         |osl i ver es off n =>
          simp only[hx]at h2 ⊢;cases ho:h[i]? with
          |none=>simp[ho]at h2
          |some o =>
           have hi:i≠id:=other ho (by rintro rfl;simp[ho]at h2);simp only[TBR hi,ho]at h2 ⊢;cases o with
           |row v' k f =>
            obtain⟨h3,h4⟩:=Xg h2;simp only[s_,zX]at h4;obtain⟨rfl,rfl⟩:=h4;refine⟨?_,by rw[L_ hi];exact hu⟩
            dsimp only
            unfold Qd;rw[N_ h3,ZAw _ _ (v_ hi)]
           |_=>simp at h2
         |sl n k f tt =>
          simp only[hx]at h2 ⊢;cases tt with
          |false=>simp at h2
          |true =>
           simp only at h2 ⊢;by_cases hz0:m=0∧0<n
           ·rw[N_ hz0]at h2 ⊢
            cases h2;exact⟨rfl,hu⟩
           rw[M_ hz0]at h2 ⊢;obtain⟨h3,h4⟩:=Xg h2;simp only[s_,zX]at h4;obtain⟨rfl,rfl⟩:=h4;refine⟨?_,by rw[S_ hlt];exact hu⟩;unfold Qd;rw[N_ h3,ZBM _ _ hlt,V_]
         |_=>simp[hx]at h2
      split at he
      ·rename_i h1
       refine⟨.inl ?_,(hap he).2⟩;simp only[Jb,e1,e2];rw[N_ h1];exact(hap he).1
      ·rename_i h1
       refine⟨.inl ?_,(hz he).2⟩;simp only[Jb,e1,e2];rw[M_ h1];exact(hz he).1
     ·cases he
 ·obtain⟨f,args,ts,rfl,g,G_,hf,H_⟩:=he
  have hst:strict=true:=by
   rcases TEW with h |h |h |h
   ·exact h
   ·simp[Ck]at h
   ·exact absurd h h0
   ·exact absurd rfl (h f args ts)
  rcases H_ with⟨as',hw,h1,h2,rfl⟩ | ⟨h1,_⟩ | ⟨h1,as',hw,E,hE,rfl,TBq,TAG,hub⟩
  ·exact⟨.inr ⟨f,args,ts,rfl,g,G_,hf,.inl ⟨as',hw,h1,h2,rfl⟩⟩,hu⟩
  ·rw[hst]at h1;cases h1
  ·have hov:∀h2,gu (h.set id ob) h2→gu h h2:=fun h2 ho i hi=>by
    have TDB:i≠id:=fun e=>hi (by rw[e];exact hu)
    have:=ho i (by rw[TBR TDB];exact hi);rw[this,TBR TDB]
   refine⟨.inr ⟨f,args,ts,rfl,g,G_,hf,.inr (.inr ⟨h1,as',hw,E,fun h2 ho=>hE h2 (hov h2 ho),TAG h id ob (fun _ _=>rfl) hu,?_,?_,?_⟩)⟩,hub id hu⟩
   ·intro i v n g'
    by_cases hi:i=id
    ·subst hi
     have TDI:i<(E h).length:=(R_.1 (hub i hu)).1;simp[hlt,TDI]
    ·rw[TBR hi,L_ (v_ hi)];exact TBq i v n g'
   ·intro h2 i ob' ho hi
    by_cases hii:i=id
    ·subst hii
     exact TAG h2 i ob' (hov h2 ho) hu
    ·rw[TBR hii]at hi
     exact TAG h2 i ob' (hov h2 ho) hi
   ·intro i hi
    by_cases hii:i=id
    ·subst hii
     have TDI:i<(E h).length:=(R_.1 (hub i hu)).1;simp[hlt]at hi;simp[TDI,hi]
    ·rw[TBR hii]at hi
     rw[L_ (v_ hii)];exact hub i hi
theorem Z1 (h:List AO):K1 h h:=fun _ _ _ _=>ZCj
theorem QT {h:List AO}{id:Nat}{o ob:AO}(ho:h[id]?=some o)(h1:∀ v n f,o≠.con v n f)(h2:∀v n f,ob≠.con v n f):K1 h (h.set id ob):=by
 intro i v n f;by_cases hi:id=i
 ·subst hi
  have hlt:=(R_.1 ho).1;simp only[U' hlt,ho,s_];exact⟨fun e=>absurd e (h1 v n f),fun e=>absurd e (h2 v n f)⟩
 ·rw[L_ hi]
theorem ZM {h:List AO}{ob:AO}(h2:∀v n f,ob≠.con v n f):K1 h (h ++ [ob]):=by
 intro i v n f;rw[ZDn]
 split
 ·rfl
 ·rename_i hi
  rw[j_ (by omega)];constructor
  ·intro e;cases e
  ·intro e
   cases hj:i-h.length with
   |zero=>rw[hj]at e;simp at e;exact absurd e (h2 v n f)
   |succ k=>rw[hj]at e;simp at e
theorem Ff {nid:Option Nat}{h:List AO}{ob:AO}(hu:∀ id,nid=some id→h[id]?=some .D_)(h2:∀v n f,ob≠.con v n f):K1 h (KI nid h ob):=by
 cases nid with
 |none=>exact ZM h2
 |some id=>exact QT (hu id rfl) (by simp) h2
theorem js {P:Program}{strict B':Bool}{nid:Option Nat}{op:Op}{ρ:Operand→AV}{h h':List AO}{v:AV}(he:QB P tok strict B' nid op ρ h v h')(hu:∀id,nid=some id→h[id]?=some .D_):K1 h h':=by
 by_cases hb:strict=true∧Id op=true
 ·obtain⟨rfl,hbs⟩:=hb
  cases op <;> simp only[Id]at hbs <;> try(cases hbs;done)
  rename_i t n ps;rcases he with he |he
  ·replace he:Zo P t n (ps.toList.map fun p=>(p.1,ρ p.2)) h=some (v,h'):=he
   unfold Zo at he
   split at he
   ·split at he
    ·cases he
     exact ZM (by simp)
    ·cases he
   ·cases he
  ·obtain⟨f,args,ts,e⟩:=Jf he;cases e
 by_cases h0:QH B' op=0
 ·obtain⟨rfl,_⟩:=jr h0 (fun hs=>by cases hq:Id op with |true=>exact absurd ⟨hs,hq⟩ hb |false=>rfl) he;exact Z1 _
 by_cases h1:QH B' op=1
 ·obtain⟨rfl,_⟩:=cM h1 he;exact Z1 _
 rcases he with he |he
 ·cases op <;> try(first |exact absurd rfl h0 |exact absurd rfl h1 | (simp[Jb]at he;done))
  case store t a x =>
   simp only[Jb]at he;cases hl:Zv P strict t (ρ a) (ρ x) h with
   |none=>simp[hl]at he
   |some h1 =>
    simp[hl]at he;obtain⟨rfl,rfl⟩:=he;unfold Zv at hl;cases ha:ρ a with
    |ref i ver off =>
     simp only[ha]at hl;cases ho:h[i]? with
     |none=>simp[ho]at hl
     |some o =>
      simp only[ho]at hl;cases o with
      |row v' m f =>
       obtain⟨h2,h3⟩:=Xg hl;cases h3;exact QT ho (by simp) (by simp)
      |_=>simp at hl
    |_=>simp[ha]at hl
  case alloc t =>
   simp only[Jb,Bf]at he;cases hz:Qj P t with
   |none=>simp[hz]at he
   |some z =>
    simp[hz]at he;obtain⟨rfl,rfl⟩:=he;exact Ff hu (by simp)
  case box t x =>
   simp only[Jb,NN]at he;obtain⟨h1,h2⟩:=Xg he;simp only[s_,zX]at h2;obtain⟨rfl,rfl⟩:=h2;exact Ff hu (by simp)
  case makeSlice t l cp =>
   simp only[Jb,Ed]at he
   split at he
   ·rename_i e s b k1 n k2 m h1 h2 h3
    cases hz:Qj P e with
    |none=>simp[hz]at he
    |some z =>
     simp only[hz]at he;obtain⟨h4,h5⟩:=Xg he;simp only[s_,zX]at h5;obtain⟨rfl,rfl⟩:=h5;exact Ff hu (by simp)
   ·cases he
  case makeMap t r =>
   cases r with
   |some r=>simp[Jb]at he
   |none =>
    simp only[Jb,Er]at he
    split at he
    ·split at he
     ·simp only[s_,zX]at he
      obtain⟨rfl,rfl⟩:=he;exact Ff hu (by simp)
     ·cases he
    ·cases he
  case lookup t x i ok =>
   simp only[Jb]at he;cases hl:DC P t (ρ x) (ρ i) ok h with
   |none=>simp[hl]at he
   |some y=>simp[hl]at he;obtain⟨rfl,rfl⟩:=he;exact Z1 _
  case mapUpdate t m k x =>
   simp only[Jb]at he;cases hl:Zq P t (ρ m) (ρ k) (ρ x) h with
   |none=>simp[hl]at he
   |some h1 =>
    simp[hl]at he;obtain⟨rfl,rfl⟩:=he;unfold Zq at hl
    split at hl
    ·split at hl
     ·rename_i kk k' g e4 ho
      obtain⟨h2,h3⟩:=Xg hl;cases h3;exact QT ho (by simp) (by simp)
     ·cases hl
    ·cases hl
  case insert t m k x =>
   simp only[Jb]at he;cases hl:Zq P t (ρ m) (ρ k) (ρ x) h with
   |none=>simp[hl]at he
   |some h1 =>
    simp[hl]at he;obtain⟨rfl,rfl⟩:=he;unfold Zq at hl
    split at hl
    ·split at hl
     ·rename_i kk k' g e4 ho
      obtain⟨h2,h3⟩:=Xg hl;cases h3;exact QT ho (by simp) (by simp)
     ·cases hl
    ·cases hl
  case call c =>
   obtain⟨callee,args,ts⟩:=c;cases callee with
   |invoke r m=>simp[Jb]at he
   |value f=>simp[Jb]at he
   |builtin b =>
    cases b <;> try(first | (simp[Jb]at he;done) | (exact absurd rfl h0))
    case clear =>
     simp only[Jb]at he
     split at he
     ·have h2:=he
      unfold G9 at h2
      split at h2
      ·cases h2
      ·split at h2
       ·split at h2
        ·rename_i ho
         obtain⟨h3,h4⟩:=Xg h2;simp only[s_,zX]at h4;obtain⟨rfl,rfl⟩:=h4;exact QT ho (by simp) (by simp)
        ·cases h2
       ·cases h2
     ·cases he
    case copy =>
     simp only[Jb]at he
     split at he
     ·have h2:=he
      unfold FQ at h2
      split at h2
      ·cases h2
      ·split at h2
       ·cases h2
       ·split at h2
        ·split at h2
         ·rename_i ho
          obtain⟨h3,h4⟩:=Xg h2;simp only[s_,zX]at h4;obtain⟨rfl,rfl⟩:=h4;exact QT ho (by simp) (by simp)
         ·cases h2
        ·cases h2
     ·cases he
    case append =>
     simp only[Jb]at he
     split at he
     ·rename_i x y t t' e1 e2
      split at he
      ·rename_i h1
       have h2:=he;unfold QW at h2
       split at h2
       ·cases h2
       ·split at h2
        ·cases h2
        ·split at h2
         ·split at h2
          ·rename_i ho
           obtain⟨h3,h4⟩:=Xg h2;simp only[s_,zX]at h4;obtain⟨rfl,rfl⟩:=h4;exact QT ho (by simp) (by simp)
          ·cases h2
         ·split at h2
          ·cases h2;exact fun _ _ _ _=>ZCj
          obtain⟨h3,h4⟩:=Xg h2;simp only[s_,zX]at h4;obtain⟨rfl,rfl⟩:=h4;exact ZM (by simp)
         ·cases h2
      ·have h2:=he
       unfold K3 at h2
       split at h2
       ·split at h2
        ·obtain⟨h3,h4⟩:=Xg h2
         simp only[s_,zX]at h4;obtain⟨rfl,rfl⟩:=h4;exact ZM (by simp)
        ·cases h2
       ·split at h2
        ·split at h2
         ·cases h2;exact fun _ _ _ _=>ZCj
         ·obtain⟨h3,h4⟩:=Xg h2
          simp only[s_,zX]at h4;obtain⟨rfl,rfl⟩:=h4;exact ZM (by simp)
        ·cases h2
       ·rename_i i ver es off N n _ _ _ _
        split at h2
        ·cases ho:h[i]? with
         |none=>simp[ho]at h2
         |some o =>
          simp only[ho]at h2;cases o with
          |row v' k f =>
           simp only at h2
           split at h2
           ·cases h2;exact fun _ _ _ _=>ZCj
           ·obtain⟨h3,h4⟩:=Xg h2
            simp only[s_,zX]at h4;obtain⟨rfl,rfl⟩:=h4;exact QT ho (by simp) (by simp)
          |_=>simp at h2
        ·cases h2
       ·cases h2
     ·cases he
 ·obtain⟨f,args,ts,rfl,g,G_,hf,H_⟩:=he
  rcases H_ with⟨_,_,_,_,rfl⟩ | ⟨_,_,_,_,_,rfl⟩ | ⟨_,_,_,E,_,_,TBq,_⟩
  ·exact Z1 _
  ·exact Z1 _
  ·exact TBq
structure AS.eqv (s t:AS):Prop where
 n0:s.n0=t.n0
 hid:s.hid=t.hid
 len:s.sl.length=t.sl.length
 h:s.h=t.h
 get:∀i,s.get i=t.get i
theorem AS.eqv.C' (s:AS):s.eqv s:=⟨rfl,rfl,rfl,rfl,fun _=>rfl⟩
theorem AS.eqv.trans {a b c:AS}(h:a.eqv b)(k:b.eqv c):a.eqv c:=⟨h.n0.trans k.n0,h.hid.trans k.hid,h.len.trans k.len,h.h.trans k.h,fun i=>(h.get i).trans (k.get i)⟩
theorem VV (s:AS)(i:Nat)(v:AV):(s.put i v).n0=s.n0:=by unfold AS.put;split <;> rfl
theorem YL (s:AS)(i:Nat)(v:AV):(s.put i v).hid=s.hid:=by unfold AS.put;split <;> rfl
theorem Rn (s:AS)(i:Nat)(v:AV):(s.put i v).sl.length=s.sl.length:=by unfold AS.put;split <;> simp
theorem Hi (s:AS)(i j:Nat)(v:AV):(s.put i v).get j=if j=i∧(i<s.n0→i<s.sl.length)then v else s.get j:=by
 unfold AS.put AS.get;by_cases hi:i<s.n0
 ·simp only[hi,if_true]
  by_cases hj:j<s.n0
  ·simp only[hj,if_true,Fm]
   by_cases he:j=i
   ·subst he
    by_cases hl:j<s.sl.length
    ·simp[hl]
    ·simp[hl]
   ·simp[he,v_ he]
  ·have:j≠i:=by omega
   simp[hj,this]
 ·simp only[hi,if_false]
  by_cases hj:j<s.n0
  ·have:j≠i:=by omega
   simp[hj,this]
  ·simp only[hj,if_false,XJ]
   by_cases he:j=i <;> simp[he]
theorem AS.eqv.E' {s t:AS}(h:s.eqv t)(hh:List AO)(d:Option Nat)(v:AV):(({ s with h:=hh }:AS).E' d v).eqv (({ t with h:=hh }:AS).E' d v):=by
 cases d with
 |none=>exact⟨h.n0,h.hid,h.len,rfl,h.get⟩
 |some i =>
  refine⟨by simp[AS.E',VV,h.n0],by simp[AS.E',YL,h.hid],by simp[AS.E',Rn,h.len],by simp[AS.E'],fun j=>?_⟩;simp only[AS.E',Hi,h.n0,h.len];have:=h.get j;unfold AS.get at this ⊢;simp only[h.n0]at this ⊢
  split
  ·rfl
  ·exact this
theorem AS.eqv.ev {s t:AS}(h:s.eqv t)(x:Operand):s.ev x=t.ev x:=by
 cases x <;> simp[AS.ev,h.get]
theorem AS.eqv.TAv {s t:AS}(h:s.eqv t)(all:Array Oper)(o:Oper):TAv all s o=TAv all t o:=by
 unfold Ab.TAv;cases o.guard with
 |none=>rfl
 |some q =>
  obtain⟨j,w⟩:=q;simp only[h.get]
theorem GStep.eqv {P:Program}{strict:Nat→Bool}{B':Bool}{nid:Nat→Option Nat}{all:Array Oper}{i:Nat}{s s1 t:AS}(h:GStep P tok strict B' nid all i s s1)(he:s.eqv t):∃t1,GStep P tok strict B' nid all i t t1∧s1.eqv t1:=by
 obtain⟨o,ho,h⟩:=h;have hev:s.ev=t.ev:=funext he.ev;rcases h with⟨hg,hu,v,h',hh,rfl⟩ | ⟨hg,rfl⟩
 ·refine⟨_,⟨o,ho,.inl ⟨by rw[←he.TAv];exact hg,by rw[←he.h];exact hu,v,h',by rw[←hev,←he.h];exact hh,rfl⟩⟩,he.E' h' o.dst v⟩
 ·refine⟨_,⟨o,ho,.inr ⟨by rw[←he.TAv];exact hg,rfl⟩⟩,?_⟩
  have:=he.E' t.h o.dst XW;rw[show({ s with h:=t.h }:AS)=s by rw[←he.h]]at this;exact this
theorem TAb.eqv {P:Program}{strict:Nat→Bool}{B':Bool}{nid:Nat→Option Nat}{all:Array Oper}:∀ {l:List Nat} {s s' t:AS},TAb P tok strict B' nid all l s s'→s.eqv t→∃t',TAb P tok strict B' nid all l t t'∧s'.eqv t'
 | [],s,s',t,h,he=>by cases h;exact⟨t,rfl,he⟩
 |i :: l,s,s',t,⟨s1,h1,h2⟩,he=>by
  obtain⟨t1,g1,e1⟩:=h1.eqv he;obtain⟨t',g2,e2⟩:=TAb.eqv h2 e1;exact⟨t',⟨t1,g1,g2⟩,e2⟩
theorem St.eqv {N:Nat}{c:Ctx}{a:Act}{s t:AS}(h:St N c a s)(he:s.eqv t):St N c a t :=
 ⟨h.size,h.defers,fun i=>by rw[←he.get];exact h.TAP i,by rw[←he.h];exact h.heap,h.H_⟩
variable {tok:List Tok}
theorem aV {P:Program}{strict:Bool}{nid:Option Nat}{op:Op}{ρ ρ':Operand→AV}(hρ:∀ x∈op.operands,ρ x=ρ' x)(h:List AO):Jb P strict nid op ρ h=Jb P strict nid op ρ' h:=by
  have TDV:∀ps:Array (Nat×Operand),(∀x∈(ps.toList.map (·.2)).toArray,ρ x=ρ' x)→(ps.toList.map fun p=>(p.1,ρ p.2))=(ps.toList.map fun p=>(p.1,ρ' p.2)):=by
    intro ps hp;refine ZAL fun p hm=>?_
    rw[hp p.2 (by simp;exact⟨p.1,by simpa using hm⟩)]
  cases op <;> simp only[ZBa]at hρ
  case move x=>simp[Jb,hρ x (by simp)]
  case assign x=>simp[Jb,hρ x (by simp)]
  case pick c a b=>simp[Jb,hρ c (by simp),hρ a (by simp),hρ b (by simp)]
  case box t x=>simp[Jb,hρ x (by simp)]
  case build t ps=>simp only[Jb,TDV ps hρ]
  case buildSlice t n ps=>simp only[Jb,TDV ps hρ]
  case load t a=>simp[Jb,hρ a (by simp)]
  case store t a x=>simp[Jb,hρ a (by simp),hρ x (by simp)]
  case nilCheck x=>simp[Jb,hρ x (by simp)]
  case binOp op t x y u=>simp[Jb,hρ x (by simp),hρ y (by simp)]
  case unOp op t x=>simp[Jb,hρ x (by simp)]
  case convert s d x=>simp[Jb,hρ x (by simp)]
  case makeFunc fn first G_ =>
    have:G_.toList.map ρ=G_.toList.map ρ':=ZAL fun x hx=>hρ x (by simp;right;simpa using hx)
    have TEX:first.toList.map ρ=first.toList.map ρ':=ZAL fun x hx=>hρ x (by simp;left;simpa using hx)
    cases fn <;> simp[Jb,this,TEX]
  case makeSlice t l c=>simp[Jb,hρ l (by simp),hρ c (by simp)]
  case slice t x lo hi mx =>
    have h0:=hρ x (by simp);have h1:lo.map ρ=lo.map ρ':=by cases lo <;> simp_all
    have h2:hi.map ρ=hi.map ρ':=by cases hi <;> simp_all
    have h3:mx.map ρ=mx.map ρ':=by cases mx <;> simp_all
    simp[Jb,h0,h1,h2,h3]
  case fieldAddr t x i=>simp[Jb,hρ x (by simp)]
  case field t x i=>simp[Jb,hρ x (by simp)]
  case indexAddr t x i=>simp[Jb,hρ x (by simp),hρ i (by simp)]
  case index t x i=>simp[Jb,hρ x (by simp),hρ i (by simp)]
  case sliceToArrayPointer t x=>simp[Jb,hρ x (by simp)]
  case lookup t x i ok=>simp[Jb,hρ x (by simp),hρ i (by simp)]
  case mapUpdate t m k v=>simp[Jb,hρ m (by simp),hρ k (by simp),hρ v (by simp)]
  case insert t m k v=>simp[Jb,hρ m (by simp),hρ k (by simp),hρ v (by simp)]
  case extract x i=>simp[Jb,hρ x (by simp)]
  case makeMap t r=>cases r <;> rfl
  case call c =>
    obtain⟨callee,args,ts⟩:=c;have TBD:∀x∈args.toList,ρ x=ρ' x:=fun x hx=>hρ x (by simp[ZCE];right;simpa using hx)
    cases callee with
    |value f=>rfl
    |invoke r m=>rfl
    |builtin b =>
      cases b <;> first
        |rfl
        | (simp only[Jb]
           split <;> first
             |rfl
             | (rename_i x y t t' e1 e2;simp[TBD x (by rw[e1];simp),TBD y (by rw[e1];simp)])
             | (rename_i x t e1 e2;simp[TBD x (by rw[e1];simp)])
             | (rename_i x y e1;simp[TBD x (by rw[e1];simp),TBD y (by rw[e1];simp)]))
  all_goals rfl
theorem PS {P:Program}{strict B':Bool}{op:Op}{ρ ρ':Operand→AV}(hρ:∀ x∈op.operands,ρ x=ρ' x){h h':List AO}{v:AV}(hc:HP P tok strict B' op ρ h v h'):HP P tok strict B' op ρ' h v h':=by
 obtain⟨f,args,ts,rfl,hr⟩:=hc;refine⟨f,args,ts,rfl,?_⟩;have h1:ρ f=ρ' f:=hρ f (by simp[ZBa,ZCE]);have h2:args.toList.map ρ=args.toList.map ρ':=ZAL fun x hx=>hρ x (by simp[ZBa,ZCE];right;simpa using hx)
 rw[←h1,←h2];exact hr
theorem CN {P:Program}{strict B':Bool}{nid:Option Nat}{op:Op}{ρ ρ':Operand→AV}(hρ:∀ x∈op.operands,ρ x=ρ' x){h h':List AO}{v:AV}(he:QB P tok strict B' nid op ρ h v h'):QB P tok strict B' nid op ρ' h v h':=by
 rcases he with he |he
 ·exact .inl (by rw[←aV hρ];exact he)
 ·exact .inr (PS hρ he)
theorem WY {s:AS}{d:Option Nat}{v:AV}{hh:List AO}{x:Operand}(hx:∀i,d=some i→x≠.tmp i):(({ s with h:=hh }:AS).E' d v).ev x=s.ev x:=by
 cases d with
 |none=>cases x <;> rfl
 |some i =>
  cases x with
  |tmp t =>
   have:t≠i:=fun e=>hx i rfl (by rw[e])
   show(({ s with h:=hh }:AS).put i v).get t=s.get t;rw[Hi,M_ (fun e=>this e.1)];rfl
  |_=>rfl
theorem AP {all:Array Oper}{o:Oper}{s:AS}{d:Option Nat}{v:AV}{hh:List AO}(hd:∀i,d=some i→i∉o.looksAt all):∀x∈o.op.operands,(({ s with h:=hh }:AS).E' d v).ev x=s.ev x:=by
 intro x hx;refine WY fun i hi e=>hd i hi ?_
 subst e;unfold Oper.looksAt;exact List.mem_append_left _ (List.mem_filterMap.2 ⟨.tmp i,by simpa using hx,rfl⟩)
theorem Zy {all:Array Oper}{o:Oper}{s:AS}{d:Option Nat}{v:AV}{hh:List AO}(hd:∀i,d=some i→i∉o.looksAt all):TAv all (({ s with h:=hh }:AS).E' d v) o=TAv all s o:=by
 unfold TAv;cases hg:o.guard with
 |none=>rfl
 |some q =>
  obtain⟨j,w⟩:=q;simp only;cases ho:(all[j]?).bind (·.dst)with
  |none=>rfl
  |some t =>
   simp only;have:(({ s with h:=hh }:AS).E' d v).get t=s.get t:=by
    cases d with
    |none=>rfl
    |some i =>
     have hne:t≠i:=fun e=>hd i rfl (by unfold Oper.looksAt;simp[hg,ho,e])
     show(({ s with h:=hh }:AS).put i v).get t=s.get t;rw[Hi,M_ (fun e=>hne e.1)];rfl
   rw[this]
theorem AB (s:AS)(d:Option Nat)(v:AV)(hh:List AO):({ (s.E' d v)with h:=hh }:AS)=({ s with h:=hh }:AS).E' d v:=by
 cases d with
 |none=>rfl
 |some i=>simp only[AS.E'];unfold AS.put;simp only;split <;> rfl
theorem Fy {s:AS}{d e:Option Nat}{v u:AV}{h1 h2 k1:List AO}(hne:∀i,d=some i→e≠some i) :
  AS.eqv (({ (({ s with h:=h1 }:AS).E' d v)with h:=h2 }:AS).E' e u) (({ (({ s with h:=k1 }:AS).E' e u)with h:=h2 }:AS).E' d v):=by
 rw[AB,AB];show AS.eqv ((({ s with h:=h2 }:AS).E' d v).E' e u) ((({ s with h:=h2 }:AS).E' e u).E' d v);generalize ({ s with h:=h2 }:AS)=t;cases d with
 |none=>exact .C' _
 |some i0 =>
  cases e with
  |none=>exact .C' _
  |some j0 =>
   have hij:i0≠j0:=fun e=>hne i0 rfl (by rw[e])
   refine⟨by simp[AS.E',VV],by simp[AS.E',YL],by simp[AS.E',Rn],by simp[AS.E'],fun i=>?_⟩;simp only[AS.E',Hi,VV,Rn];by_cases h1:i=j0
   ·subst h1
    simp[v_ hij]
   ·simp[h1]
theorem I4 {P:Program}{strict B':Bool}{nid:Option Nat}{op:Op}{ρ:Operand→AV}{h h':List AO}{v:AV}(he:QB P tok strict B' nid op ρ h v h'){id:Nat}(hu:h[id]?=some .D_)(hne:nid≠some id):h'[id]?=some .D_:=by
 by_cases hc:∀f args ts,op≠.call { callee:=.value f,args:=args,argTypes:=ts }
 ·exact(SA (ob:=.dead) he hu hne (.inr (.inr (.inr hc)))).2
 ·rcases he with he | ⟨f,args,ts,rfl,g,G_,hf,H_⟩
  ·exfalso
   refine hc fun f args ts e=>?_
   subst e;simp[Jb]at he
  ·rcases H_ with⟨_,_,_,_,rfl⟩ | ⟨_,_,_,_,_,rfl⟩ | ⟨_,_,_,E,_,rfl,_,_,hub⟩
   ·exact hu
   ·exact hu
   ·exact hub id hu
def Lr:Op→Bool
 | .call { callee:=.value _,.. }=>true
 |_=>false
def D9:Op→Option Nat
 | .call c=>match c.callee with
  | .builtin .append=>match c.args.toList with
   | [.tmp t,_]=>some t
   |_=>none
  |_=>none
 |_=>none
theorem C8 {op:Op}{t:Nat}(h:D9 op=some t):∃y ts,op=.call { callee:=.builtin .append,args:=#[.tmp t,y],argTypes:=ts }:=by
 cases op <;> simp only[D9]at h <;> try(cases h;done)
 rename_i c;obtain⟨callee,args,ts⟩:=c;simp only at h
 split at h
 ·split at h
  ·rename_i t' y he
   cases h;refine⟨y,ts,?_⟩;obtain rfl:args=#[.tmp t,y]:=by rw[←ZDb (xs:=args),he]
   rfl
  ·cases h
 ·cases h
def pr (s:Bool)(op:Op):Bool:=!(s && Id op)
theorem HX {s:Bool}{op:Op}(h:pr s op=true)(hs:s=true):Id op=false:=by
 subst hs
 simpa [pr]using h
def rE (strict:Nat→Bool)(all:Array Oper)(m t:Nat):Bool:=match all[m]? with
 |some o=>Id o.op && !strict m && o.guard.isNone && o.dst == some t && (ZAD all.size).all fun q=>q == m || (match all[q]? with |some o'=>!(o'.dst == some t) |none=>true)
 |none=>false
def Dj (strict:Nat→Bool)(all:Array Oper)(oi:Oper):Bool:=match D9 oi.op with
 |some t=>oi.after.any fun e=>ZBX .any e && rE strict all e.on t
 |none=>false
def Nn (a:AV):Prop:=(∃n m f t,a=.sl n m f t)∨a=.any
def Lj (strict:Nat→Bool)(all:Array Oper)(i:Nat)(s:AS):Prop:=∀oi,all[i]?=some oi→Dj strict all oi=true→∀t,D9 oi.op=some t→Nn (s.get t)
def nY:Op→Option Operand
 | .store _ a _=>some a
 |_=>none
theorem U6 {op:Op}{a:Operand}(h:nY op=some a):∃t x,op=.store t a x:=by
 cases op <;> simp only[nY]at h <;> try(cases h;done)
 cases h;exact⟨_,_,rfl⟩
def DQ (strict:Nat→Bool)(fj fi sj si B':Bool)(all:Array Oper)(oj oi:Oper):Bool :=
  oj.apart all oi && pr sj oj.op && pr si oi.op &&
    (QH B' oj.op == 0 || QH B' oi.op == 0 || (QH B' oj.op == 1 && QH B' oi.op == 1) || (QH B' oi.op == 2 && (sj || !Lr oj.op)) ||
     (si && QH B' oi.op == 1 && (QH B' oj.op == 2 || QH B' oj.op == 3)) || (sj && QH B' oj.op == 1 && QH B' oi.op == 3) || (Ck oj.op && Dj strict all oi) || (Ck oi.op && (D9 oj.op).isSome) || (fj && fi && Ck oj.op && ((D9 oi.op).isSome || (nY oi.op).isSome)))
theorem EC {op:Op}(h:Ck op=true):∃t a,op=.load t a:=by
 cases op <;> simp[Ck]at h;exact⟨_,_,rfl⟩
theorem LW {P:Program}{strict:Bool}{t:TypeId}{a v:AV}{h r:List AO}(hl:Qx P strict t a h=some v):Qx P strict t a (h ++ r)=some v:=by
 unfold Qx at hl ⊢;cases hd:CD P t with
 |none=>simp[hd]at hl
 |some kk =>
  simp only[hd]at hl ⊢;cases ha:a with
  |ptr m f off=>simpa [ha]using hl
  |ref id ver off =>
   simp only[ha]at hl ⊢;cases hh:h[id]? with
   |none=>simp[hh]at hl
   |some o =>
    have:(h ++ r)[id]?=some o:=by rw[S_ (R_.1 hh).1];exact hh
    rw[this]
    simpa [hh]using hl
  |_=>simp[ha]at hl
theorem Bw {α:Type}{p:Prop}{x:Option α}{v:α}(h:Qd p x=some v):x=some v:=by
 unfold Qd at h
 split at h
 ·exact h
 ·cases h
theorem PJ {P:Program}{t:TypeId}{x y v:AV}{h h':List AO}(hx:Nn x)(he:QW P t x y h=some (v,h')):∃r,h'=h ++ r:=by
 unfold QW at he;cases h1:AK P t with
 |none=>simp[h1]at he
 |some e =>
  obtain⟨e1,s,b⟩:=e;simp only[h1]at he;cases h2:Db s y h with
  |none=>simp[h2]at he
  |some q =>
   obtain⟨m,g⟩:=q;simp only[h2]at he;rcases hx with⟨n,k,f,q,rfl⟩ |rfl
   ·cases q
    ·simp at he
    ·simp only at he
     split at he
     ·cases he;exact⟨[],by simp⟩
     have:=Bw he;cases this;exact⟨_,rfl⟩
   ·simp at he
theorem HV {P:Program}{t t':TypeId}{x y v:AV}{h h':List AO}(he:K3 P t t' x y h=some (v,h')):(∃r,h'=h ++ r)∨∃b ver es off n v k f k' f',x=.osl b ver es off n∧h[b]?=some (.row v k f)∧h'=h.set b (.row (v+1) k' f'):=by
 unfold K3 at he
 split at he
 ·split at he
  ·have:=Bw he
   cases this;exact .inl ⟨_,rfl⟩
  ·cases he
 ·split at he
  ·split at he
   ·cases he;exact .inl ⟨[],by simp⟩
   ·have:=Bw he
    cases this;exact .inl ⟨_,rfl⟩
  ·cases he
 ·split at he
  ·split at he
   ·rename_i ho
    split at he
    ·cases he;exact .inl ⟨[],by simp⟩
    ·have:=Bw he
     cases this;exact .inr ⟨_,_,_,_,_,_,_,_,_,_,rfl,ho,rfl⟩
   ·cases he
  ·cases he
 ·cases he
theorem Sc {P:Program}{t t':TypeId}{x y v:AV}{h h':List AO}(hx:Nn x)(he:K3 P t t' x y h=some (v,h')):∃r,h'=h ++ r:=by
 rcases HV he with h1 | ⟨b,ver,es,off,n,v,k,f,k',f',rfl,_⟩
 ·exact h1
 ·rcases hx with⟨_,_,_,_,h⟩ |h <;> cases h
theorem V0 {P:Program}{t t':TypeId}{x y v:AV}{h h':List AO}(he:K3 P t t' x y h=some (v,h')):(∃r,h'=h ++ r)∨∃b ver es off n ob,x=.osl b ver es off n∧h'=h.set b ob:=by
 rcases HV he with h1 | ⟨b,ver,es,off,n,v,k,f,k',f',h1,h2,h3⟩
 ·exact .inl h1
 ·exact .inr ⟨b,ver,es,off,n,_,h1,h3⟩
theorem fN {P:Program}{sj si B':Bool}{nj ni:Option Nat}{oj oi:Op}{ρ:Operand→AV}{h h1 h2:List AO}{vj vi:AV}{t:Nat}
  (hl:Ck oj=true) (hx:D9 oi=some t) (hsl:Nn (ρ (.tmp t))) (hj:QB P tok sj B' nj oj ρ h vj h1) (hi:QB P tok si B' ni oi ρ h1 vi h2) :
  QB P tok si B' ni oi ρ h vi h2∧QB P tok sj B' nj oj ρ h2 vj h2∧∃r,h2=h ++ r:=by
 obtain⟨tl,al,rfl⟩:=EC hl;obtain⟨y,ts,rfl⟩:=C8 hx;have hj':Qx P sj tl (ρ al) h=some vj∧h1=h:=by
  rcases hj with he |he
  ·replace he:(Qx P sj tl (ρ al) h).map (fun v=>(v,h))=some (vj,h1):=he
   cases hv:Qx P sj tl (ρ al) h with
   |none=>simp[hv]at he
   |some x=>simp[hv]at he;exact⟨by rw[he.1],he.2.symm⟩
  ·obtain⟨f,args,ts,e⟩:=Jf he;cases e
 obtain⟨hv,rfl⟩:=hj';have hr:∃r,h2=h1 ++ r:=by
  rcases hi with he |he
  ·replace he:(match ts.toList with
    | [t1,t2]=>if t1=t2 then QW P t1 (ρ (.tmp t)) (ρ y) h1 else K3 P t1 t2 (ρ (.tmp t)) (ρ y) h1
    |_=>none)=some (vi,h2):=by
    have e:Jb P si ni (.call { callee:=.builtin .append,args:=#[.tmp t,y],argTypes:=ts }) ρ h1=(match ts.toList with
     | [t1,t2]=>if t1=t2 then QW P t1 (ρ (.tmp t)) (ρ y) h1 else K3 P t1 t2 (ρ (.tmp t)) (ρ y) h1
     |_=>none):=by
     show(match ([.tmp t,y]:List Operand),ts.toList with
      | [x,y],[t,t']=>if t=t' then QW P t (ρ x) (ρ y) h1 else K3 P t t' (ρ x) (ρ y) h1
      |_,_=>none)=_
     match ts.toList with
     | []=>rfl
     | [_]=>rfl
     | [_,_]=>rfl
     |_ :: _ :: _ :: _=>rfl
    rw[←e];exact he
   split at he
   ·split at he
    ·exact PJ hsl he
    ·exact Sc hsl he
   ·cases he
  ·obtain⟨f,args,ts,e⟩:=Jf he;cases e
 obtain⟨r,rfl⟩:=hr;refine⟨hi,.inl ?_,r,rfl⟩;show(Qx P sj tl (ρ al) (h1 ++ r)).map (fun v=>(v,h1 ++ r))=_;rw[LW hv];rfl
theorem rK {P:Program}{sj si B':Bool}{nj ni:Option Nat}{oj oi:Op}{ρj ρi:Operand→AV}{h h1 h2:List AO}{vj vi:AV}
    (hj:QB P tok sj B' nj oj ρj h vj h1) (hi:QB P tok si B' ni oi ρi h1 vi h2)
    (uj:∀id,nj=some id→h[id]?=some .D_) (ui:∀id,ni=some id→h[id]?=some .D_) (hne:∀id,nj=some id→ni≠some id) (cj:nj≠none→QH B' oj=2) (ci:ni≠none→QH B' oi=2) (ci2:QH B' oi=2→ni≠none)
    (bj:sj=true→Id oj=false) (bi:si=true→Id oi=false) (hm:QH B' oj=0∨QH B' oi=0∨(QH B' oj=1∧QH B' oi=1)∨(QH B' oi=2∧(sj=true∨Lr oj=false)) ∨
     (si=true∧QH B' oi=1∧(QH B' oj=2∨QH B' oj=3))∨(sj=true∧QH B' oj=1∧QH B' oi=3)) :
    ∃k1,QB P tok si B' ni oi ρi h vi k1∧QB P tok sj B' nj oj ρj k1 vj h2∧∀id,nj=some id→k1[id]?=some .D_:=by
  have fin:∀k1,QB P tok si B' ni oi ρi h vi k1→∀id,nj=some id→k1[id]?=some .D_:=fun k1 he id hid=>I4 he (uj id hid) (hne id hid)
  rcases hm with hm |hm | ⟨hm1,hm2⟩ | ⟨hm1,hm2⟩ | ⟨hs,hm1,hm2⟩ | ⟨hs,hm1,hm2⟩
  · obtain⟨rfl,hk⟩:=jr hm bj hj;exact⟨h2,hi,hk h2,fin _ hi⟩
  · obtain⟨rfl,hk⟩:=jr hm bi hi;exact⟨h,hk h,hj,fin _ (hk h)⟩
  · obtain⟨rfl,_⟩:=cM hm1 hj;obtain⟨rfl,_⟩:=cM hm2 hi;exact⟨_,hi,hj,fin _ hi⟩
  · obtain⟨id,rfl⟩:=Option.ne_none_iff_exists'.1 (ci2 hm1);obtain⟨ob,hob,rfl,hk⟩:=yX hm1 hi;refine⟨h.set id ob,hk h,(SA hj (ui id rfl) (fun e=>hne id e rfl) ?_).1,fin _ (hk h)⟩;rcases hm2 with hm2 |hm2
    · exact .inl hm2
    · right;right;right;rintro f args ts rfl;simp[Lr]at hm2
  · obtain⟨rfl,hk⟩:=cM hm1 hi;have TBq:=js hj uj;have:=hk hs h (fun id v n f e=>(TBq id v n f).2 e);exact⟨h,this,hj,fin _ this⟩
  · obtain⟨rfl,hk⟩:=cM hm1 hj;have TBq:=js hi ui;exact⟨h2,hi,hk hs h2 (fun id v n f e=>(TBq id v n f).1 e),fin _ hi⟩
def Pq (h h':List AO):Prop:=(∃r,h'=h ++ r)∨∃ (id ver k:Nat) (f:Nat→AV) (k':Nat) (f':Nat→AV),h[id]?=some (.row ver k f)∧h'=h.set id (.row (ver+1) k' f')
theorem UX {P:Program}{t:TypeId}{x y v:AV}{h h':List AO}(he:QW P t x y h=some (v,h')):Pq h h':=by
 unfold QW at he;cases h1:AK P t with
 |none=>simp[h1]at he
 |some e =>
  obtain⟨e1,s,b⟩:=e;simp only[h1]at he;cases h2:Db s y h with
  |none=>simp[h2]at he
  |some q =>
   obtain⟨m,g⟩:=q;simp only[h2]at he;cases x with
   |osl id ver es off n =>
    simp only at he;cases ho:h[id]? with
    |none=>simp[ho]at he
    |some o =>
     cases o with
     |row v0 k f =>
      simp only[ho]at he;have:=Bw he;cases this;exact .inr ⟨id,v0,k,f,_,_,ho,rfl⟩
     |_=>simp[ho]at he
   |sl n k f q =>
    cases q
    ·simp at he
    ·simp only at he
     split at he
     ·cases he;exact .inl ⟨[],by simp⟩
     have:=Bw he;cases this;exact .inl ⟨_,rfl⟩
   |_=>simp at he
theorem WC {P:Program}{strict B':Bool}{nid:Option Nat}{op:Op}{ρ:Operand→AV}{h h':List AO}{v:AV}(hx:(D9 op).isSome=true) (he:QB P tok strict B' nid op ρ h v h'):Pq h h':=by
 obtain⟨t,ht⟩:=ZBU.1 hx;obtain⟨y,ts,rfl⟩:=C8 ht;rcases he with he |he
 ·replace he:(match ts.toList with
   | [t1,t2]=>if t1=t2 then QW P t1 (ρ (.tmp t)) (ρ y) h else K3 P t1 t2 (ρ (.tmp t)) (ρ y) h
   |_=>none)=some (v,h'):=by
   have e:Jb P strict nid (.call { callee:=.builtin .append,args:=#[.tmp t,y],argTypes:=ts }) ρ h=(match ts.toList with
    | [t1,t2]=>if t1=t2 then QW P t1 (ρ (.tmp t)) (ρ y) h else K3 P t1 t2 (ρ (.tmp t)) (ρ y) h
    |_=>none):=by
    show(match ([.tmp t,y]:List Operand),ts.toList with
     | [x,y],[t,t']=>if t=t' then QW P t (ρ x) (ρ y) h else K3 P t t' (ρ x) (ρ y) h
     |_,_=>none)=_
    match ts.toList with
    | []=>rfl
    | [_]=>rfl
    | [_,_]=>rfl
    |_ :: _ :: _ :: _=>rfl
   rw[←e];exact he
  split at he
  ·split at he
   ·exact UX he
   ·rcases HV he with h1 | ⟨b,ver,es,off,n,v,k,f,k',f',_,h2,h3⟩
    ·exact .inl h1
    ·exact .inr ⟨_,_,_,_,_,_,h2,h3⟩
  ·cases he
 ·obtain⟨f,args,ts,e⟩:=Jf he;cases e
def TBr (h:List AO)(a:AV):Prop:=∀id ver off,a=.ref id ver off→(∃v,inf h id=some v∧ver≤v)∨h[id]?=some .dead
def Pp (all:Array Oper)(i:Nat)(s:AS):Prop:=∀oi t x,all[i]?=some oi→oi.op=.load t x→TBr s.h (s.ev x)
theorem TBr.app {h h':List AO}{a:AV}(ha:TBr h a)(he:Pq h h'):TBr h' a:=by
 rintro id ver off rfl;have hlt:id<h.length:=by
  rcases ha id ver off rfl with⟨v,hv,_⟩ |hd
  ·unfold inf at hv
   cases ho:h[id]? with
   |none=>simp[ho]at hv
   |some o=>exact(R_.1 ho).1
  ·exact(R_.1 hd).1
 rcases he with⟨r,rfl⟩ | ⟨b,vb,k,f,k',f',hb,rfl⟩
 ·have e:(h ++ r)[id]?=h[id]?:=S_ hlt
  unfold inf;rw[e];exact ha id ver off rfl
 ·by_cases hi:b=id
  ·subst hi
   rcases ha b ver off rfl with⟨v,hv,hle⟩ |hd
   ·left
    refine⟨vb+1,by unfold inf;rw[U' hlt];rfl,?_⟩;unfold inf at hv;rw[hb]at hv;cases hv;omega
   ·rw[hb]at hd;cases hd
  ·unfold inf
   rw[L_ hi];exact ha id ver off rfl
theorem aR {P:Program}{strict:Bool}{t:TypeId}{a v:AV}{h h':List AO}(ha:TBr h a)(he:Pq h h')(hl:Qx P strict t a h'=some v):Qx P strict t a h=some v:=by
 unfold Qx at hl ⊢;cases hd:CD P t with
 |none=>simp[hd]at hl
 |some kk =>
  simp only[hd]at hl ⊢;cases a with
  |ptr m f off=>simpa using hl
  |ref id ver off =>
   simp only at hl ⊢;have hlt:id<h.length:=by
    rcases ha id ver off rfl with⟨v,hv,_⟩ |hd
    ·unfold inf at hv
     cases ho:h[id]? with
     |none=>simp[ho]at hv
     |some o=>exact(R_.1 ho).1
    ·exact(R_.1 hd).1
   rcases he with⟨r,rfl⟩ | ⟨b,vb,k,f,k',f',hb,rfl⟩
   ·rw[S_ hlt]at hl;exact hl
   ·by_cases hi:b=id
    ·subst hi
     rw[U' hlt]at hl;simp only at hl;exfalso;unfold Qd at hl
     split at hl
     ·rename_i hc
      rcases ha b ver off rfl with⟨v,hv,hle⟩ |hd
      ·unfold inf at hv
       rw[hb]at hv;cases hv;omega
      ·rw[hb]at hd;cases hd
     ·cases hl
    ·rw[L_ hi]at hl;exact hl
  |_=>simp at hl
theorem rJ {P:Program}{sj si B':Bool}{nj ni:Option Nat}{oj oi:Op}{ρ:Operand→AV}{h h1 h2:List AO}{vj vi:AV}{tl:TypeId}{al:Operand}
  (hl:oi=.load tl al) (hx:(D9 oj).isSome=true) (ha:TBr h (ρ al)) (hj:QB P tok sj B' nj oj ρ h vj h1) (hi:QB P tok si B' ni oi ρ h1 vi h2) :
  QB P tok si B' ni oi ρ h vi h∧h2=h1:=by
 subst hl;have TFK:=WC hx hj;rcases hi with he |he
 ·replace he:(Qx P si tl (ρ al) h1).map (fun v=>(v,h1))=some (vi,h2):=he
  cases hv:Qx P si tl (ρ al) h1 with
  |none=>simp[hv]at he
  |some x =>
   simp[hv]at he;obtain⟨rfl,rfl⟩:=he;refine⟨.inl ?_,rfl⟩;show(Qx P si tl (ρ al) h).map (fun v=>(v,h))=_;rw[aR ha TFK hv];rfl
 ·obtain⟨f,args,ts,e⟩:=Jf he;cases e
def GT (all:Array Oper)(fl:Nat→Bool)(T:Nat→Prop)(i:Nat)(s:AS):Prop:=fl i=true→∀oi,all[i]?=some oi →
 (∀tl al,oi.op=.load tl al→∀o va off,s.ev al=.ref o va off→T o)∧(∀tx,D9 oi.op=some tx→∀b ver es off n,s.get tx=.osl b ver es off n→¬T b)∧(∀a,nY oi.op=some a→∀o va off,s.ev a=.ref o va off→¬T o)
theorem S8 {P:Program}{t:TypeId}{x y v:AV}{h h':List AO}(he:QW P t x y h=some (v,h')):(∃r,h'=h ++ r)∨∃b ver es off n ob,x=.osl b ver es off n∧h'=h.set b ob:=by
 unfold QW at he;cases h1:AK P t with
 |none=>simp[h1]at he
 |some e =>
  obtain⟨e1,s,b⟩:=e;simp only[h1]at he;cases h2:Db s y h with
  |none=>simp[h2]at he
  |some q =>
   obtain⟨m,g⟩:=q;simp only[h2]at he;cases x with
   |osl id ver es off n =>
    simp only at he;cases ho:h[id]? with
    |none=>simp[ho]at he
    |some o =>
     cases o with
     |row v0 k f =>
      simp only[ho]at he;have:=Bw he;cases this;exact .inr ⟨id,ver,es,off,n,_,rfl,rfl⟩
     |_=>simp[ho]at he
   |sl n k f q =>
    cases q
    ·simp at he
    ·simp only at he
     split at he
     ·cases he;exact .inl ⟨[],by simp⟩
     have:=Bw he;cases this;exact .inl ⟨_,rfl⟩
   |_=>simp at he
theorem iC {P:Program}{strict B':Bool}{nid:Option Nat}{op:Op}{ρ:Operand→AV}{h h':List AO}{v:AV}{t:Nat}(ht:D9 op=some t)(he:QB P tok strict B' nid op ρ h v h') :
  (∃r,h'=h ++ r)∨∃b ver es off n ob,ρ (.tmp t)=.osl b ver es off n∧h'=h.set b ob:=by
 obtain⟨y,ts,rfl⟩:=C8 ht;rcases he with he |he
 ·replace he:(match ts.toList with
   | [t1,t2]=>if t1=t2 then QW P t1 (ρ (.tmp t)) (ρ y) h else K3 P t1 t2 (ρ (.tmp t)) (ρ y) h
   |_=>none)=some (v,h'):=by
   have e:Jb P strict nid (.call { callee:=.builtin .append,args:=#[.tmp t,y],argTypes:=ts }) ρ h=(match ts.toList with
    | [t1,t2]=>if t1=t2 then QW P t1 (ρ (.tmp t)) (ρ y) h else K3 P t1 t2 (ρ (.tmp t)) (ρ y) h
    |_=>none):=by
    show(match ([.tmp t,y]:List Operand),ts.toList with
     | [x,y],[t,t']=>if t=t' then QW P t (ρ x) (ρ y) h else K3 P t t' (ρ x) (ρ y) h
     |_,_=>none)=_
    match ts.toList with
    | []=>rfl
    | [_]=>rfl
    | [_,_]=>rfl
    |_ :: _ :: _ :: _=>rfl
   rw[←e];exact he
  split at he
  ·split at he
   ·exact S8 he
   ·exact V0 he
  ·cases he
 ·obtain⟨f,args,ts,e⟩:=Jf he;cases e
theorem Oh {P:Program}{strict:Bool}{t:TypeId}{a v:AV}{h:List AO}{b:Nat}{ob:AO}(hl:Qx P strict t a h=some v)(hb:∀o va off,a=.ref o va off→o≠b):Qx P strict t a (h.set b ob)=some v:=by
 unfold Qx at hl ⊢;cases hd:CD P t with
 |none=>simp[hd]at hl
 |some kk =>
  simp only[hd]at hl ⊢;cases a with
  |ptr m f off=>simpa using hl
  |ref id ver off =>
   simp only at hl ⊢;rw[L_ (v_ (hb id ver off rfl))];exact hl
  |_=>simp at hl
theorem yC {P:Program}{sj si B':Bool}{nj ni:Option Nat}{oj oi:Op}{ρ:Operand→AV}{h h1 h2:List AO}{vj vi:AV}{T:Nat→Prop}{t:Nat}{tl:TypeId}{al:Operand}
  (hl:oj=.load tl al) (hx:D9 oi=some t) (g1:∀o va off,ρ al=.ref o va off→T o) (g2:∀b ver es off n,ρ (.tmp t)=.osl b ver es off n→¬T b) (hj:QB P tok sj B' nj oj ρ h vj h1) (hi:QB P tok si B' ni oi ρ h1 vi h2) :
  QB P tok si B' ni oi ρ h vi h2∧QB P tok sj B' nj oj ρ h2 vj h2:=by
 subst hl;have hj':Qx P sj tl (ρ al) h=some vj∧h1=h:=by
  rcases hj with he |he
  ·replace he:(Qx P sj tl (ρ al) h).map (fun v=>(v,h))=some (vj,h1):=he
   cases hv:Qx P sj tl (ρ al) h with
   |none=>simp[hv]at he
   |some x=>simp[hv]at he;exact⟨by rw[he.1],he.2.symm⟩
  ·obtain⟨f,args,ts,e⟩:=Jf he;cases e
 obtain⟨hv,rfl⟩:=hj';have TAh:Qx P sj tl (ρ al) h2=some vj:=by
  rcases iC hx hi with⟨r,rfl⟩ | ⟨b,ver,es,off,n,ob,e1,rfl⟩
  ·exact LW hv
  ·exact Oh hv fun o va TFL e=>by
    rintro rfl;exact g2 _ _ _ _ _ e1 (g1 _ _ _ e)
 refine⟨hi,.inl ?_⟩;show(Qx P sj tl (ρ al) h2).map (fun v=>(v,h2))=_;rw[TAh];rfl
theorem yB {P:Program}{sj si B':Bool}{nj ni:Option Nat}{oj oi:Op}{ρ:Operand→AV}{h h1 h2:List AO}{vj vi:AV}{T:Nat→Prop}{a:Operand}{tl:TypeId}{al:Operand}
  (hl:oj=.load tl al) (hx:nY oi=some a) (g1:∀o va off,ρ al=.ref o va off→T o) (g2:∀o va off,ρ a=.ref o va off→¬T o) (hj:QB P tok sj B' nj oj ρ h vj h1) (hi:QB P tok si B' ni oi ρ h1 vi h2) :
  QB P tok si B' ni oi ρ h vi h2∧QB P tok sj B' nj oj ρ h2 vj h2:=by
 subst hl;have hj':Qx P sj tl (ρ al) h=some vj∧h1=h:=by
  rcases hj with he |he
  ·replace he:(Qx P sj tl (ρ al) h).map (fun v=>(v,h))=some (vj,h1):=he
   cases hv:Qx P sj tl (ρ al) h with
   |none=>simp[hv]at he
   |some x=>simp[hv]at he;exact⟨by rw[he.1],he.2.symm⟩
  ·obtain⟨f,args,ts,e⟩:=Jf he;cases e
 obtain⟨hv,rfl⟩:=hj';obtain⟨tt,x,rfl⟩:=U6 hx;have TAh:Qx P sj tl (ρ al) h2=some vj:=by
  rcases hi with he |he
  ·replace he:(Zv P si tt (ρ a) (ρ x) h1).map (fun h=>(XW,h))=some (vi,h2):=he
   cases hs:Zv P si tt (ρ a) (ρ x) h1 with
   |none=>simp[hs]at he
   |some k =>
    simp[hs]at he;obtain⟨_,rfl⟩:=he;unfold Zv at hs
    split at hs
    ·rename_i id ver off hra
     split at hs
     ·rw[←Bw hs |> ZEB]
      exact Oh hv fun o va TFL e=>by
       rintro rfl;exact g2 _ _ _ hra (g1 _ _ _ e)
     ·cases hs
    ·cases hs
  ·obtain⟨f,args,ts,e⟩:=Jf he;cases e
 refine⟨hi,.inl ?_⟩;show(Qx P sj tl (ρ al) h2).map (fun v=>(v,h2))=_;rw[TAh];rfl
theorem SE {P:Program}{strict:Nat→Bool}{B':Bool}{nid:Nat→Option Nat}{all:Array Oper}{j:Nat}{s s1:AS}{oj oi:Oper}(hj:all[j]?=some oj)(h:GStep P tok strict B' nid all j s s1)(ha:∀d,oj.dst=some d→d∉oi.looksAt all):∀x∈oi.op.operands,s1.ev x=s.ev x:=by
 intro x hx;obtain⟨o,ho,h⟩:=h;rw[hj]at ho;cases ho;rcases h with⟨_,_,v,h',_,rfl⟩ | ⟨_,rfl⟩
 ·exact AP ha x hx
 ·exact AP (s:=s) (hh:=s.h) (v:=XW) ha x hx
theorem GT.move {all:Array Oper}{fl:Nat→Bool}{T:Nat→Prop}{i:Nat}{s t:AS}{oi:Oper}(hi:all[i]?=some oi)(h:∀ x∈oi.op.operands,t.ev x=s.ev x)(g:GT all fl T i s):GT all fl T i t:=by
 intro hf oi' TAm;rw[hi]at TAm;cases TAm;obtain⟨g1,g2,g3⟩:=g hf oi hi;refine⟨fun tl al e o va off hv=>g1 tl al e o va off ?_,fun tx e b ver es off n hv=>g2 tx e b ver es off n ?_,fun a e o va off hv=>g3 a e o va off ?_⟩
 ·rw[←h al (by rw[e];simp[ZBa])];exact hv
 ·obtain⟨y,ts,he⟩:=C8 e
  have:=h (.tmp tx) (by rw[he];simp[ZBa,ZCE]);rw[←show s.ev (.tmp tx)=s.get tx from rfl,←this];exact hv
 ·obtain⟨tt,x,he⟩:=U6 e
  rw[←h a (by rw[he];simp[ZBa])];exact hv
def TAW (P:Program)(tok:List Tok)(strict:Nat→Bool)(B':Bool)(nid:Nat→Option Nat)(all:Array Oper)(fl:Nat→Bool)(T:Nat→Prop):List Nat→AS→AS→Prop
 | [],s,s'=>s'=s
 |i :: l,s,s'=>GT all fl T i s∧∃s1,GStep P tok strict B' nid all i s s1∧TAW P tok strict B' nid all fl T l s1 s'
theorem TAb.toT {P:Program}{strict:Nat→Bool}{B':Bool}{nid:Nat→Option Nat}{all:Array Oper}{fl:Nat→Bool}{T:Nat→Prop}(hf:∀i,fl i=false):∀ {l:List Nat} {s s':AS},TAb P tok strict B' nid all l s s'→TAW P tok strict B' nid all fl T l s s'
 | [],_,_,h=>h
 |i :: _,_,_,⟨s1,h1,h2⟩=>⟨fun e=>(by rw[hf i]at e;cases e),s1,h1,h2.toT hf⟩
theorem TAW.eqv {P:Program}{strict:Nat→Bool}{B':Bool}{nid:Nat→Option Nat}{all:Array Oper}{fl:Nat→Bool}{T:Nat→Prop}:∀ {l:List Nat} {s s' t:AS},TAW P tok strict B' nid all fl T l s s'→s.eqv t→∃t',TAW P tok strict B' nid all fl T l t t'∧s'.eqv t'
 | [],s,s',t,h,he=>by cases h;exact⟨t,rfl,he⟩
 |i :: l,s,s',t,⟨h0,s1,h1,h2⟩,he=>by
  obtain⟨t1,g1,e1⟩:=h1.eqv he;obtain⟨t',g2,e2⟩:=TAW.eqv h2 e1;obtain⟨oi,hoi,_⟩:=h1;exact⟨t',⟨h0.move hoi fun x _=>(he.ev x).symm,t1,g1,g2⟩,e2⟩
theorem yt {P:Program}{fl:Nat→Bool}{T:Nat→Prop}{strict:Nat→Bool}{B':Bool}{nid:Nat→Option Nat}{all:Array Oper}{i j:Nat}{s s1 s2:AS}(hn:∀i o,all[i]?=some o→(nid i≠none↔QH B' o.op=2))
    (TCy:∀id,nid j=some id→nid i≠some id) (hij:∀oj oi,all[j]?=some oj→all[i]?=some oi→DQ strict (fl j) (fl i) (strict j) (strict i) B' all oj oi=true)
    (ui:∀id,nid i=some id→s.h[id]?=some .D_) (hfr:Lj strict all i s) (had:strict i=false→Pp all i s) (gj:GT all fl T j s)
    (h1:GStep P tok strict B' nid all j s s1) (h2:GStep P tok strict B' nid all i s1 s2) (gi:GT all fl T i s1) :
    ∃t1 t2,GStep P tok strict B' nid all i s t1∧GStep P tok strict B' nid all j t1 t2∧s2.eqv t2:=by
  obtain⟨oj,hoj,h1⟩:=h1;obtain⟨oi,hoi,h2⟩:=h2;have hm:=hij oj oi hoj hoi;simp only[DQ,w_,ZBt,beq_iff_eq]at hm;obtain⟨⟨⟨hap,hb1⟩,hb2⟩,TCz⟩:=hm;obtain⟨a1,a2,a3⟩:=ZCP hap;have TEY:QH B' oj.op=0∨QH B' oi.op=0∨(QH B' oj.op=1∧QH B' oi.op=1)∨(QH B' oi.op=2∧(strict j=true∨Lr oj.op=false)) ∨
     (strict i=true∧QH B' oi.op=1∧(QH B' oj.op=2∨QH B' oj.op=3))∨(strict j=true∧QH B' oj.op=1∧QH B' oi.op=3)∨(Ck oj.op=true∧Dj strict all oi=true)∨(Ck oi.op=true∧(D9 oj.op).isSome=true)∨(((fl j=true∧fl i=true)∧Ck oj.op=true)∧((D9 oi.op).isSome=true∨(nY oi.op).isSome=true)):=by
    rcases TCz with(((((((h |h) |h) | ⟨h,h'⟩) | ⟨⟨h,h'⟩,h''⟩) | ⟨⟨h,h'⟩,h''⟩) | ⟨h,h'⟩) | ⟨h,h'⟩) |h
    · exact .inl h
    · exact .inr (.inl h)
    · exact .inr (.inr (.inl h))
    · exact .inr (.inr (.inr (.inl ⟨h,by simpa using h'⟩)))
    · exact .inr (.inr (.inr (.inr (.inl ⟨h,h',h''⟩))))
    · exact .inr (.inr (.inr (.inr (.inr (.inl ⟨h,h',h''⟩)))))
    · exact .inr (.inr (.inr (.inr (.inr (.inr (.inl ⟨h,h'⟩))))))
    · exact .inr (.inr (.inr (.inr (.inr (.inr (.inr (.inl ⟨h,h'⟩)))))))
    · exact .inr (.inr (.inr (.inr (.inr (.inr (.inr (.inr h)))))))
  have TDJ:∀d,oj.dst=some d→oi.dst≠some d:=a2;have TGA:∀t:AS,({ t with h:=t.h }:AS)=t:=fun _=>rfl
  rcases h1 with⟨g1,u1,v1,h1',e1,rfl⟩ | ⟨g1,rfl⟩
  · rcases h2 with⟨g2,u2,v2,h2',e2,rfl⟩ | ⟨g2,rfl⟩
    · rw[Zy (fun d hd=>a1 d hd)]at g2;have e2':QB P tok (strict i) B' (nid i) oi.op s.ev h1' v2 h2':=by
        have:=CN (ρ':=s.ev) (fun x hx=>AP (fun d hd=>a1 d hd) x hx) (show QB P tok (strict i) B' (nid i) oi.op _ _ v2 h2' from e2)
        simpa using this
      have e1':QB P tok (strict j) B' (nid j) oj.op s.ev s.h v1 h1':=e1;obtain⟨k1,f1,f2,f3⟩:∃k1,QB P tok (strict i) B' (nid i) oi.op s.ev s.h v2 k1∧QB P tok (strict j) B' (nid j) oj.op s.ev k1 v1 h2'∧∀id,nid j=some id→k1[id]?=some .D_:=by
        have old:_→∃k1,QB P tok (strict i) B' (nid i) oi.op s.ev s.h v2 k1∧QB P tok (strict j) B' (nid j) oj.op s.ev k1 v1 h2'∧∀id,nid j=some id→k1[id]?=some .D_ :=
          fun hc=>rK e1' e2' u1 ui TCy (hn j oj hoj).1 (hn i oi hoi).1 (hn i oi hoi).2 (HX hb1) (HX hb2) hc
        rcases TEY with h |h |h |h |h |h | ⟨hl,hf⟩ | ⟨hl,hf⟩ | ⟨⟨⟨hfj,hfi⟩,hl⟩,hf⟩
        · exact old (.inl h)
        · exact old (.inr (.inl h))
        · exact old (.inr (.inr (.inl h)))
        · exact old (.inr (.inr (.inr (.inl h))))
        · exact old (.inr (.inr (.inr (.inr (.inl h)))))
        · exact old (.inr (.inr (.inr (.inr (.inr h)))))
        · cases hxt:D9 oi.op with
          |none=>simp[Dj,hxt]at hf
          |some t =>
            obtain⟨q1,q2,r,q3⟩:=fN hl hxt (hfr oi hoi hf t hxt) e1' e2';refine⟨h2',q1,q2,fun id hid=>?_⟩;have:=u1 id hid;rw[q3,S_ (R_.1 this).1];exact this
        · obtain⟨tl,al,TAh⟩:=EC hl;obtain⟨tx,htx⟩:=ZBU.1 hf;obtain⟨yx,tsx,hop⟩:=C8 htx;by_cases hsi:strict i=true
          · exact old (.inr (.inr (.inr (.inr (.inl ⟨hsi,by rw[TAh];rfl,.inr (by rw[hop];rfl)⟩)))))
          · obtain⟨q1,q2⟩:=rJ TAh hf (had (by simpa using hsi) oi tl al hoi TAh) e1' e2';subst q2;exact⟨s.h,q1,e1',u1⟩
        · obtain⟨tl,al,TAh⟩:=EC hl;have gi0:GT all fl T i s:=GT.move hoi (fun x hx=>(AP (fun d hd=>a1 d hd) x hx).symm) gi;obtain⟨q1,q2⟩:QB P tok (strict i) B' (nid i) oi.op s.ev s.h v2 h2'∧QB P tok (strict j) B' (nid j) oj.op s.ev h2' v1 h2':=by
            rcases hf with hf |hf
            · obtain⟨tx,htx⟩:=ZBU.1 hf;exact yC TAh htx ((gj hfj oj hoj).1 tl al TAh) ((gi0 hfi oi hoi).2.1 tx htx) e1' e2'
            · obtain⟨a,hax⟩:=ZBU.1 hf;exact yB TAh hax ((gj hfj oj hoj).1 tl al TAh) ((gi0 hfi oi hoi).2.2 a hax) e1' e2'
          refine⟨h2',q1,q2,fun id hid=>?_⟩;exfalso;have:=(hn j oj hoj).1 (by rw[hid];simp);rw[TAh]at this;cases this
      refine⟨({ s with h:=k1 }:AS).E' oi.dst v2,_,⟨oi,hoi,.inl ⟨g2,ui,v2,k1,f1,rfl⟩⟩,⟨oj,hoj,.inl ⟨?_,?_,v1,h2',?_,rfl⟩⟩,?_⟩
      · rw[Zy (fun d hd=>a3 d hd)];exact g1
      · intro id hid;rw[TAz];exact f3 id hid
      · have:=CN (ρ':=(({ s with h:=k1 }:AS).E' oi.dst v2).ev) (fun x hx=>(AP (fun d hd=>a3 d hd) x hx).symm) f2;rw[TAz];exact this
      · exact Fy TDJ
    · rw[Zy (fun d hd=>a1 d hd)]at g2;refine⟨s.E' oi.dst XW,_,⟨oi,hoi,.inr ⟨g2,rfl⟩⟩,⟨oj,hoj,.inl ⟨?_,?_,v1,h1',?_,rfl⟩⟩,?_⟩
      · rw[show s.E' oi.dst XW=({ s with h:=s.h }:AS).E' oi.dst XW from rfl,Zy (fun d hd=>a3 d hd)];exact g1
      · intro id hid;rw[TAz];exact u1 id hid
      · have:=CN (ρ':=(({ s with h:=s.h }:AS).E' oi.dst XW).ev) (fun x hx=>(AP (fun d hd=>a3 d hd) x hx).symm) (show QB P tok (strict j) B' (nid j) oj.op s.ev s.h v1 h1' from e1);rw[TAz];exact this
      · have:=Fy (s:=s) (d:=oj.dst) (e:=oi.dst) (v:=v1) (u:=XW) (h1:=h1') (h2:=h1') (k1:=s.h) TDJ;rw[AB]at this;exact this
  · rcases h2 with⟨g2,u2,v2,h2',e2,rfl⟩ | ⟨g2,rfl⟩
    · rw[show s.E' oj.dst XW=({ s with h:=s.h }:AS).E' oj.dst XW from rfl,Zy (fun d hd=>a1 d hd)]at g2;have e2':QB P tok (strict i) B' (nid i) oi.op s.ev s.h v2 h2':=by
        have:=CN (ρ':=s.ev) (fun x hx=>AP (s:=s) (hh:=s.h) (v:=XW) (fun d hd=>a1 d hd) x hx) (show QB P tok (strict i) B' (nid i) oi.op _ _ v2 h2' from e2)
        simpa using this
      refine⟨({ s with h:=h2' }:AS).E' oi.dst v2,_,⟨oi,hoi,.inl ⟨g2,ui,v2,h2',e2',rfl⟩⟩,⟨oj,hoj,.inr ⟨?_,rfl⟩⟩,?_⟩
      · rw[Zy (fun d hd=>a3 d hd)];exact g1
      · have:=Fy (s:=s) (d:=oj.dst) (e:=oi.dst) (v:=XW) (u:=v2) (h1:=s.h) (h2:=h2') (k1:=h2') TDJ;rw[AB,AB]at this;rw[AB];exact this
    · rw[show s.E' oj.dst XW=({ s with h:=s.h }:AS).E' oj.dst XW from rfl,Zy (fun d hd=>a1 d hd)]at g2;refine⟨s.E' oi.dst XW,_,⟨oi,hoi,.inr ⟨g2,rfl⟩⟩,⟨oj,hoj,.inr ⟨?_,rfl⟩⟩,?_⟩
      · rw[show s.E' oi.dst XW=({ s with h:=s.h }:AS).E' oi.dst XW from rfl,Zy (fun d hd=>a3 d hd)];exact g1
      · have:=Fy (s:=s) (d:=oj.dst) (e:=oi.dst) (v:=XW) (u:=XW) (h1:=s.h) (h2:=s.h) (k1:=s.h) TDJ;rw[AB,AB]at this;exact this
theorem sT {P:Program}{fl:Nat→Bool}{T:Nat→Prop}{strict:Nat→Bool}{B':Bool}{nid:Nat→Option Nat}{all:Array Oper}{i:Nat}(hn:∀i o,all[i]?=some o→(nid i≠none↔QH B' o.op=2))
  (TCy:∀i j id,nid i=some id→nid j=some id→i=j):∀ (A B:List Nat) {s s':AS},
  (∀j∈A,j≠i∧∀oj oi,all[j]?=some oj→all[i]?=some oi→DQ strict (fl j) (fl i) (strict j) (strict i) B' all oj oi=true)→(∀id,nid i=some id→s.h[id]?=some .D_)→Lj strict all i s→(strict i=false→Pp all i s) →
  TAW P tok strict B' nid all fl T (A ++ i :: B) s s'→∃t1 t',GStep P tok strict B' nid all i s t1∧GT all fl T i s∧TAW P tok strict B' nid all fl T (A ++ B) t1 t'∧s'.eqv t'
 | [],B,s,s',_,_,_,_,⟨h0,s1,h1,h2⟩=>⟨s1,s',h1,h0,h2,.C' _⟩
 |j :: A,B,s,s',hA,hu,hfr,had,⟨h0,s1,h1,h2⟩=>by
  obtain⟨hji,hmv⟩:=hA j (by simp);have hu1:∀id,nid i=some id→s1.h[id]?=some .D_:=by
   intro id hid;obtain⟨oj,hoj,h1'⟩:=h1;rcases h1' with⟨_,_,v,h',he,rfl⟩ | ⟨_,rfl⟩
   ·rw[TAz];exact I4 (show QB P tok (strict j) B' (nid j) oj.op s.ev s.h v h' from he) (hu id hid) (fun e=>hji (TCy j i id e hid))
   ·rw[TAz];exact hu id hid
  have TFM:Lj strict all i s1:=by
   intro oi hoi hf t ht;have h0:=hfr oi hoi hf t ht;obtain⟨oj,hoj,h1'⟩:=h1;have hm:=hmv oj oi hoj hoi;simp only[DQ,w_]at hm;obtain⟨a1,_,_⟩:=ZCP hm.1.1.1;obtain⟨y,ts,he⟩:=C8 ht;have TAU:(Operand.tmp t)∈oi.op.operands:=by rw[he];simp[ZBa,ZCE]
   have key:∀ (hh:List AO) v,(({ s with h:=hh }:AS).E' oj.dst v).get t=s.get t:=fun hh v=>AP (fun d hd=>a1 d hd) _ TAU
   rcases h1' with⟨_,_,v,h',he,rfl⟩ | ⟨_,rfl⟩
   ·rw[key];exact h0
   ·have:=key s.h XW
    rw[show({ s with h:=s.h }:AS)=s from rfl]at this;rw[this];exact h0
  have TFN:strict i=false→Pp all i s1:=by
   intro hsi oi tl al hoi TAh;have h0:=had hsi oi tl al hoi TAh;obtain⟨oj,hoj,h1'⟩:=h1;have hm:=hmv oj oi hoj hoi;simp only[DQ,w_,ZBt,beq_iff_eq]at hm;obtain⟨⟨⟨hap,hb1⟩,hb2⟩,TCz⟩:=hm;obtain⟨a1,_,_⟩:=ZCP hap;have TAU:al∈oi.op.operands:=by rw[TAh];simp[ZBa]
   have key:∀ (hh:List AO) v,(({ s with h:=hh }:AS).E' oj.dst v).ev al=s.ev al:=fun hh v=>AP (fun d hd=>a1 d hd) _ TAU
   have cl:QH B' oi.op=1:=by rw[TAh];rfl
   rcases h1' with⟨_,_,v,h',he,rfl⟩ | ⟨_,rfl⟩
   ·rw[key,TAz]
    show TBr h' (s.ev al);replace he:QB P tok (strict j) B' (nid j) oj.op s.ev s.h v h':=he;rcases TCz with(((((((h |h) | ⟨h,h'⟩) | ⟨h,h'⟩) | ⟨⟨h,h'⟩,h''⟩) | ⟨⟨h,h'⟩,h''⟩) | ⟨h,h'⟩) | ⟨h,h'⟩) | ⟨h,h'⟩
    ·obtain⟨rfl,_⟩:=jr h (HX hb1) he;exact h0
    ·rw[cl]at h;cases h
    ·obtain⟨rfl,_⟩:=cM h he;exact h0
    ·rw[cl]at h;cases h
    ·rw[hsi]at h;cases h
    ·rw[cl]at h'';cases h''
    ·unfold Dj at h'
     rw[TAh]at h';simp[D9]at h'
    ·exact h0.app (WC h' he)
    ·rw[TAh]at h';simp[D9,nY]at h'
   ·have:=key s.h XW
    rw[show({ s with h:=s.h }:AS)=s from rfl]at this;rw[this,TAz];exact h0
  obtain⟨u1,u',g1,gi,g2,g3⟩:=sT hn TCy A B (fun k hk=>hA k (by simp[hk])) hu1 TFM TFN h2;obtain⟨t1,t2,f1,f2,f3⟩:=yt hn (fun id hid e=>hji (TCy j i id hid e)) hmv hu hfr had h0 h1 g1 gi;obtain⟨t',f4,f5⟩:=g2.eqv f3;obtain⟨oj,hoj,_⟩:=id h1;obtain⟨oi,hoi,_⟩:=id f1;have hm:=hmv oj oi hoj hoi;simp only[DQ,w_]at hm;obtain⟨a1,_,a3⟩:=ZCP hm.1.1.1;refine⟨t1,t',f1,GT.move hoi (fun x hx=>(SE hoj h1 (fun d hd=>a1 d hd) x hx).symm) gi,⟨GT.move hoj (fun x hx=>SE hoi f1 (fun d hd=>a3 d hd) x hx) h0,t2,f2,f4⟩,g3.trans f5⟩
def CQ (B':Bool)(all:Array Oper)(i:Nat):Nat:=((all.toList.take i).filter fun o=>QH B' o.op == 2).length
def CM (B':Bool)(all:Array Oper)(base:Nat)(i:Nat):Option Nat :=
 match all[i]? with
 |some o=>if QH B' o.op=2 then some (base+CQ B' all i)else none
 |none=>none
def Ew (B':Bool)(all:Array Oper):Nat:=(all.toList.filter fun o=>QH B' o.op == 2).length
def jq (o:Oper)(j:Nat):Bool:=o.after.any fun e=>ZBX .any e && e.on == j
def Ii (all:Array Oper):Nat→Nat→Nat→Bool
 |0,_,_=>false
 |f+1,i,j=>match all[i]? with
  |none=>false
  |some o=>o.after.any fun e=>ZBX .any e && (e.on == j || Ii all f e.on j)
theorem G1 {all:Array Oper}{TAK:Array Bool}(TCO:∀ k o,all[k]?=some o→TAK.getD k false=true→∀ e∈o.after,ZBX .any e=true→TAK.getD e.on false=true){j:Nat} :
  ∀ (f i:Nat),(∀o,all[i]?=some o→∀e∈o.after,ZBX .any e=true→TAK.getD e.on false=true)→Ii all f i j=true→TAK.getD j false=true
 |0,_,_,h=>by simp[Ii]at h
 |f+1,i,hr,h=>by
  simp only[Ii]at h;cases ho:all[i]? with
  |none=>simp[ho]at h
  |some o =>
   simp only[ho]at h;obtain⟨q,hq,hb⟩:=ZCk.1 h;simp only[w_,ZBt,beq_iff_eq]at hb;have hl:=hr o ho _ (ZCi hq) hb.1;rcases hb.2 with e |e
   ·rw[←e];exact hl
   ·exact G1 TCO f _ (fun o' ho'=>TCO _ o' ho' hl) e
def jm (fl strict:Nat→Bool)(B':Bool)(all:Array Oper):Bool :=
 (ZAD all.size).all fun i=>match all[i]? with
  |none=>true
  |some oi=>oi.after.all (fun e=>!Region.binds .any e || decide (e.on<i)) &&
    (ZAD i).all fun j=>jq oi j || (match all[j]? with
     |none=>true
     |some oj=>DQ strict (fl j) (fl i) (strict j) (strict i) B' all oj oi) || Ii all 6 i j
theorem N7 {B':Bool}{all:Array Oper}{i j:Nat}{o:Oper}(ho:all[i]?=some o)(hc:QH B' o.op=2)(hij:i<j):CQ B' all i<CQ B' all j:=by
 unfold CQ;have hi:i<all.toList.length:=by simpa using (c_.1 ho).1
 have h1:(all.toList.take (i+1))=all.toList.take i ++ [o]:=by
  rw[ZCV hi];congr 2;have:=(c_.1 ho).2
  simpa using this
 have h2:(all.toList.take (i+1)).Sublist (all.toList.take j):=List.take_sublist_take_left (by omega);have h3:=(h2.filter fun o=>QH B' o.op == 2).length_le;rw[h1,ZD8,f_]at h3;simp[hc]at h3;omega
theorem OT {B':Bool}{all:Array Oper}{base i j id:Nat}(hi:CM B' all base i=some id)(hj:CM B' all base j=some id):i=j:=by
 unfold CM at hi hj;cases ho:all[i]? with
 |none=>simp[ho]at hi
 |some oi =>
  cases ho':all[j]? with
  |none=>simp[ho']at hj
  |some oj =>
   simp only[ho]at hi;simp only[ho']at hj
   split at hi
   ·split at hj
    ·rename_i c1 c2
     simp at hi hj;rcases Nat.lt_trichotomy i j with h |h |h
     ·have:=N7 ho c1 h;omega
     ·exact h
     ·have:=N7 ho' c2 h;omega
    ·cases hj
   ·cases hi
theorem m9 {B':Bool}{all:Array Oper}{i:Nat}{o:Oper}(ho:all[i]?=some o)(hc:QH B' o.op=2):CQ B' all i<Ew B' all:=by
 have hi:i<all.size:=(c_.1 ho).1;have:=N7 (j:=all.size) ho hc hi;have e:CQ B' all all.size=Ew B' all:=by
  unfold CQ Ew;rw[ZCW (by simp)]
 omega
theorem dW {B':Bool}{all:Array Oper}{base i:Nat}{o:Oper}(ho:all[i]?=some o):CM B' all base i≠none↔QH B' o.op=2:=by
 unfold CM;simp only[ho]
 split <;> simp_all
theorem Ts {l:List Nat}{i:Nat}(hi:i∈l)(hs:l.Pairwise (·<·)):∃A B,l=A ++ i :: B∧(∀j∈A,j<i)∧(∀j∈B,i<j):=by
  obtain⟨A,B,rfl⟩:=List.append_of_mem hi;rw[ZDq]at hs;refine⟨A,B,rfl,fun j hj=>hs.2.2 j hj i (by simp),fun j hj=>?_⟩;exact(ZCd.1 hs.2.1).1 j hj
theorem iy {P:Program}{fl:Nat→Bool}{T:Nat→Prop}{strict:Nat→Bool}{B':Bool}{all:Array Oper}{N base:Nat}{ro:Option Nat}{ds:List Deferred}(hN:∀ o∈all.toList,∀ i,o.dst=some i→i<N)(hd:jm fl strict B' all=true){Q:Exit→Act→World→Prop}{s':AS} :
    ∀ (l:List Nat) (TAK:Array Bool) {s:AS} {c:Ctx} {a:Act},TAK.size=all.size→(∀k o,all[k]?=some o→TAK.getD k false=true→∀e∈o.after,ZBX .any e=true→TAK.getD e.on false=true)→l.Pairwise (·<·)→(∀i,i∈l↔i<all.size∧TAK.getD i true=false)→St N c a s→(∀p∈tok,TAT c p) →
    (∀i∈l,∀id,CM B' all base i=some id→s.h[id]?=some .D_)→(∀m t,rE strict all m t=true→TAK.getD m false=true→Nn (s.get t)) →
    (∃t',TAW P tok strict B' (CM B' all base) all fl T l s t'∧s'.eqv t')→(∀a' c',St N c' a' s'→Ext c c'→Q .normal { a' with defers:=ds } c'.w) →
    wpAnyIn (A0 ro) 0 P .any all Q l.length TAK { a with defers:=ds } c.w:=by
  intro l;generalize hlen:l.length=n;intro TAK s c a hsz TCO hs TAU hst TAj hu hso hex hQ
  induction n generalizing l TAK s c a with
  |zero =>
    obtain rfl:l=[]:=List.eq_nil_of_length_eq_zero hlen;obtain⟨t',h1,h2⟩:=hex;cases h1;refine⟨?_,hQ a c (hst.eqv ⟨h2.n0.symm,h2.hid.symm,h2.len.symm,h2.h.symm,fun i=>(h2.get i).symm⟩) (Ext.refl c)⟩;apply List.eq_nil_iff_forall_not_mem.2;intro i hi;obtain⟨h3,o,ho,_⟩:=mem_ready.1 hi;have:i∈([]:List Nat):=(TAU i).2 ⟨(c_.1 ho).1,h3⟩;simp at this
  |succ n ih =>
    have hd':∀i oi,all[i]?=some oi→(∀e∈oi.after,ZBX .any e=true→e.on<i)∧∀j,j<i→jq oi j=true∨(∀oj,all[j]?=some oj→DQ strict (fl j) (fl i) (strict j) (strict i) B' all oj oi=true)∨Ii all 6 i j=true:=by
      intro i oi hoi;have hlt:=(c_.1 hoi).1;have h1:=(ZA1.1 hd) i (by simpa using hlt);simp only[hoi,w_]at h1;refine⟨fun e he hb=>?_,fun j hj=>?_⟩
      · have:=(ZCg.1 h1.1) e he
        simpa [hb]using this
      · have:=(ZA1.1 h1.2) j (by simpa using hj);simp only[ZBt]at this;rcases this with(h |h) |h
        · exact .inl h
        · exact .inr (.inl fun oj hoj=>by simpa [hoj]using h)
        · exact .inr (.inr h)
    have hne:l≠[]:=by rintro rfl;simp at hlen
    refine⟨fun TDv=>?_,fun i hi=>?_⟩
    ·
      exfalso;obtain⟨i,l',rfl⟩:=List.exists_cons_of_ne_nil hne;obtain⟨hlt,hun⟩:=(TAU i).1 (by simp);have hoi:all[i]?=some all[i]:=Array.getElem?_eq_getElem hlt;have:i∈Region.ready .any all TAK:=by
        refine mem_ready.2 ⟨hun,all[i],hoi,fun e he hb=>?_⟩;have TDI:=(hd' i _ hoi).1 e he hb;have TDw:e.on∉i :: l':=by
          intro hm;rcases b_.1 hm with h |h
          · omega
          · have:=(ZCd.1 hs).1 _ h;omega
        have TFO:e.on<TAK.size:=by omega
        have:¬ (e.on<all.size∧TAK.getD e.on true=false):=fun h=>TDw ((TAU e.on).2 h)
        have h2:TAK.getD e.on true≠false:=fun h=>this ⟨by omega,h⟩
        simp[ZAO,TFO]at h2 ⊢;exact h2
      rw[TDv]at this;simp at this
    · obtain⟨hun,oi,hoi,TBK⟩:=mem_ready.1 hi;have hil:i∈l:=(TAU i).2 ⟨(c_.1 hoi).1,hun⟩;obtain⟨A,B,rfl,hA,hB⟩:=Ts hil hs;obtain⟨t',h1,h2⟩:=hex;have hmv:∀j∈A,j≠i∧∀oj oi,all[j]?=some oj→all[i]?=some oi→DQ strict (fl j) (fl i) (strict j) (strict i) B' all oj oi=true:=by
        intro j hj;have hji:=hA j hj;refine⟨by omega,fun oj oi' hoj TAm=>?_⟩;rw[hoi]at TAm;cases TAm;rcases(hd' i oi hoi).2 j hji with h |h |h
        · exfalso;obtain⟨q,hq,hb⟩:=ZCk.1 h;obtain⟨e,he⟩:∃e,e=oi.after[q]:=⟨_,rfl⟩
          rw[←he]at hb;replace he:e∈oi.after:=by rw[he];exact ZCi _
          simp only[w_,beq_iff_eq]at hb;have hl:=TBK e he hb.1;rw[hb.2]at hl;have TCZ:=((TAU j).1 (by simp[hj])).2;have hjs:j<TAK.size:=by have:=((TAU j).1 (by simp[hj])).1;omega
          simp[ZAO,hjs]at hl TCZ;rw[hl]at TCZ;cases TCZ
        · exact h oj hoj
        · exfalso;have hl:=G1 TCO 6 i (fun o ho e he hb=>by rw[hoi]at ho;cases ho;exact TBK e he hb) h;have TCZ:=((TAU j).1 (by simp[hj])).2;have hjs:j<TAK.size:=by have:=((TAU j).1 (by simp[hj])).1;omega
          simp[ZAO,hjs]at hl TCZ;rw[hl]at TCZ;cases TCZ
      have hfr:Lj strict all i s:=by
        intro oi' TAm hf t ht;rw[hoi]at TAm;cases TAm;unfold Dj at hf;rw[ht]at hf;obtain⟨q,hq,hb⟩:=ZCk.1 hf;simp only[w_]at hb;exact hso _ t hb.2 (TBK _ (ZCi hq) hb.1)
      have had:Pp all i s:=by
        intro oi' tl al _ _ id ver off hev;have hr:=hst.ev al;rw[hev]at hr;have hH:=hst.heap;generalize a.eval al=vv at hr;cases hr with
        |ref _ _ _ b sz hi hg=>exact .inl ⟨ver,by rw[←hH];exact hi,N' _⟩
        |TAQ _ _ _ ad hs =>
          rcases hs with⟨v',hv,hlt⟩ |hd
          · exact .inl ⟨v',by rw[←hH];exact hv,by omega⟩
          · exact .inr (by rw[←hH];exact hd)
      obtain⟨t1,t2,f1,_,f2,f3⟩:=sT (nid:=CM B' all base) (fun i o ho=>dW ho) (fun i j id hi hj=>OT hi hj) A B hmv (hu i (by simp)) hfr (fun _=>had) h1;have TFP:∀m t,rE strict all m t=true→(TAK.setIfInBounds i true).getD m false=true→Nn (t1.get t):=by
        intro m t hsm hlm;have TCj:=hsm;unfold rE at TCj;cases hom:all[m]? with
        |none=>simp[hom]at TCj
        |some om =>
          simp only[hom,w_,beq_iff_eq]at TCj;obtain⟨⟨⟨⟨p1,p0⟩,p2⟩,p3⟩,p4⟩:=TCj;obtain⟨o',ho',f1'⟩:=f1;rw[hoi]at ho';cases ho';by_cases hmi:m=i
          · subst hmi;rw[hoi]at hom;cases hom;rcases f1' with⟨_,_,v,h',he,rfl⟩ | ⟨hg,_⟩
            · have hv:∃n k f b,v=.sl n k f b:=by
                cases hop:oi.op with
                |buildSlice bt bn bps =>
                  rw[hop]at he;rcases he with he |he
                  · have p0':strict m=false:=by simpa using p0
                    replace he:(if strict m=true then Zo P bt bn (bps.toList.map fun p=>(p.1,s.ev p.2)) s.h else(Ki P bt bn (bps.toList.map fun p=>(p.1,s.ev p.2))).map (fun v=>(v,s.h)))=some (v,h'):=he;rw[M_ (by rw[p0'];decide)]at he;replace he:(Ki P bt bn (bps.toList.map fun p=>(p.1,s.ev p.2))).map (fun v=>(v,s.h))=some (v,h'):=he;cases hb:Ki P bt bn (bps.toList.map fun p=>(p.1,s.ev p.2))with
                    |none=>rw[hb]at he;simp at he
                    |some x =>
                      rw[hb]at he;simp at he;obtain⟨rfl,_⟩:=he;unfold Ki at hb
                      split at hb
                      · split at hb
                        · have:=Bw hb;rw[Option.map_eq_some_iff]at this;obtain⟨z,_,rfl⟩:=this;exact⟨_,_,_,true,rfl⟩
                        · cases hb
                      · cases hb
                  · obtain⟨f,args,ts,e⟩:=Jf he;cases e
                |_=>rw[hop]at p1;cases p1
              rw[p3];show Nn (AS.get (AS.put _ t v) t);rw[Hi]
              split
              · exact .inl hv
              · rename_i hno;simp only[true_and,Classical.not_imp]at hno;right;unfold AS.get;rw[N_ hno.1];simp only[K'];rw[j_ (by have:=hno.2;omega)];rfl
            · unfold TAv at hg;cases hgo:oi.guard with
              |none=>simp[hgo]at hg
              |some q=>simp[hgo]at p2
          · rw[getD_set_ne false (v_ hmi)]at hlm;have h0:=hso m t hsm hlm;have TFQ:=(c_.1 hoi).1;have:=(ZA1.1 p4) i (by simpa using TFQ);simp only[hoi,ZBt,beq_iff_eq,ZDQ]at this;have hne:oi.dst≠some t:=by
              rcases this with e |e
              · exact absurd e.symm hmi
              · intro e';rw[e']at e;simp at e
            have key:∀ (hh:List AO) v,(({ s with h:=hh }:AS).E' oi.dst v).get t=s.get t:=fun hh v=>WY (x:=.tmp t) (fun i hi e=>hne (by rw[hi];cases e;rfl))
            rcases f1' with⟨_,_,v,h',he,rfl⟩ | ⟨_,rfl⟩
            · rw[key];exact h0
            · have:=key s.h XW;rw[show({ s with h:=s.h }:AS)=s from rfl]at this;rw[this];exact h0
      refine f1.sound hst TAj hN fun a' c' TAt hx=>?_
      have TEZ:(A ++ B).length=n:=by simp at hlen ⊢;omega
      refine ih (A ++ B) TEZ (TAK.setIfInBounds i true) (by simpa using hsz) ?_ ?_ ?_ TAt (fun p hp=>(TAj p hp).ext hx) ?_ TFP ⟨t2,f2,h2.trans f3⟩ (fun a'' c'' TCN hx'=>hQ a'' c'' TCN (hx.trans hx'))
      · have mono:∀q,TAK.getD q false=true→(TAK.setIfInBounds i true).getD q false=true:=by
          intro q hq;by_cases hqi:q=i
          · have:i<TAK.size:=by have:=(c_.1 hoi).1;omega
            subst hqi;simp[ZAO,this]
          · rw[getD_set_ne false (v_ hqi)];exact hq
        intro q o ho hl e he hb;by_cases hqi:q=i
        · subst hqi;rw[hoi]at ho;cases ho;exact mono _ (TBK e he hb)
        · rw[getD_set_ne false (v_ hqi)]at hl;exact mono _ (TCO q o ho hl e he hb)
      · rw[ZDq]at hs ⊢;exact⟨hs.1,(ZCd.1 hs.2.1).2,fun a ha b hb=>hs.2.2 a ha b (by simp[hb])⟩
      · intro j;have hj0:=TAU j;by_cases hji:j=i
        · subst hji;constructor
          · intro h;exfalso;rcases m_.1 h with h |h
            · have:=hA _ h;omega
            · have:=hB _ h;omega
          · rintro⟨h3,h4⟩;exfalso;have:j<TAK.size:=by omega
            simp[ZAO,this]at h4
        · rw[getD_set_ne true (v_ hji)];rw[←hj0];simp[hji]
      · intro j hj id hid;have hji:j≠i:=by
          rintro rfl;rcases m_.1 hj with h |h
          · have:=hA _ h;omega
          · have:=hB _ h;omega
        have hjl:j∈A ++ i :: B:=by
          rcases m_.1 hj with h |h <;> simp[h]
        obtain⟨o',ho',f1'⟩:=f1;rcases f1' with⟨_,_,v,h',he,rfl⟩ | ⟨_,rfl⟩
        · rw[TAz];exact I4 (show QB P tok (strict i) B' (CM B' all base i) o'.op s.ev s.h v h' from he) (hu j hjl id hid) (fun e=>hji (OT hid e))
        · rw[TAz];exact hu j hjl id hid
structure Env where
 P:Program
 fn:Func
 str:List Nat
 hcs:List Nat
 base:Nat
 rnd:Option (Nat×Loop)
 tok:List Tok
 out:Option (Nat×Loop×Loop)
 Q:AV→List AO→Prop
def T4 (D:Nat):Deferred:={ target:=.collected D,args:=#[] }
def Marks (c0 c:Ctx):List Deferred→Prop
 | []=>True
 |d :: ds=>(∃D,d=T4 D∧c0.w.heap.size≤D∧Kept c D (.deferred (some []))∧d∉ds)∧Marks c0 c ds
theorem Marks.ext {m:Nat}{c0 c c':Ctx}(hx:TAc m c c'):∀ {ds:List Deferred},Marks c0 c ds→Marks c0 c' ds
 | [],_=>trivial
 |_ :: _,⟨⟨D,e,h1,h2,h3⟩,h⟩=>⟨⟨D,e,h1,h2.ext hx,h3⟩,h.ext hx⟩
structure Pre (X:Env)(c0 c:Ctx)(ds:List Deferred):Prop where
 ext:TAc X.base c0 c
 tok:∀p∈X.tok,TAT c p∧p.ce.H.length≤X.base
 rnd:∀l r,X.rnd=some (l,r)→Kept c l (.loop r)∧Ai c0 l
 marks:Marks c0 c ds
 out:∀l r r1,X.out=some (l,r,r1)→X.rnd=none→Kept c0 l (.loop r)
theorem Pre.step {X:Env}{c0 c c':Ctx}{ds:List Deferred}(h:Pre X c0 c ds)(hx:TAc X.base c c'):Pre X c0 c' ds :=
 ⟨h.ext.trans hx,fun p hp=>⟨(h.tok p hp).1.TFI (h.tok p hp).2 hx,(h.tok p hp).2⟩,fun l r e=>⟨(h.rnd l r e).1.ext hx,(h.rnd l r e).2⟩,h.marks.ext hx,h.out⟩
def Wu (X:Env)(c:Ctx):Prop:=∀l r,X.rnd=some (l,r)→∃st pe,Kept c l (.loop { r with state:=st,pending:=pe })
def HB (l:List Nat)(id i:Nat):Bool:=l.contains id && !l.contains (1000*id+1000+i)
def cS:List Nat→Nat→Nat→Bool
 | [],_,_=>false
 |c :: l,id,i=>(c/1000000000000 == id+1 && c%1000000000000 == i) || cS l id i
def DM:List Nat→Nat→Bool
 | [],_=>true
 |c :: l,id=>if c/1000000000000=id+1 then false else DM l id
theorem OA {id:Nat}:∀ {l:List Nat},DM l id=true→∀i,cS l id i=false
 | [],_,_=>rfl
 |c :: l,h,i=>by
  unfold DM at h
  split at h
  ·cases h
  ·rename_i hc
   unfold cS;rw[OA h i];simp[hc]
def tB (N:Nat)(ops:Array Oper):Bool:=ops.all fun o=>match o.dst with |some d=>decide (d<N) |none=>true
def QO (N:Nat)(str hcs:List Nat):Code→Bool
 | .region id ops draw=>tB N ops && (!draw || jm (cS str id) (HB str id) (hcs.contains id) ops)
 | .seq a b=>QO N str hcs a && QO N str hcs b
 | .cond _ a b=>QO N str hcs a && QO N str hcs b
 | .block _ b=>QO N str hcs b
 | .loop b=>QO N str hcs b
 | .scope b=>QO N str hcs b
 | .rangeFunc ..=>true
 | .ret=>true
 |_=>true
def ZB (N:Nat)(str hcs:List Nat):Item→Bool
 | .code c=>QO N str hcs c
 | .inBlock _=>true
 | .inLoop c=>QO N str hcs c
 | .inScope c=>QO N str hcs c
 | .beginRound=>true
 |_=>false
def Dz (X:Env)(k:List Item):Prop:=∀i∈k,ZB X.fn.ntmps X.str X.hcs i=true
def nV (X:Env)(b:Frame)(ds:List Deferred)(fr:Frame)(w:World)(v:Value):Prop :=
 match X.rnd with
 |none=>fr.fn=b.fn∧fr.leaving X.P w (.returned v)
 |some _=>match X.out with
  |none=>∃a':Act,fr=b.atR { a' with defers:=ds } []
  |some (_,_,r1)=>∃ (a':Act) (k':List Item),fr=b.atR { a' with defers:=ds } (.code (r1.pending.getD .ret) :: k')∧∀id,r1.pending=some (.exit id)→exitTo id k'=none
def UH (X:Env)(c0 c':Ctx):Prop:=match X.out,X.rnd with
 |some (l,r,r1),none=>Kept c' l (.loop r1)∧TAc X.base c0 ⟨c'.w.putObj l (.loop r),c'.S,c'.γ,c'.H⟩
 |_,_=>TAc X.base c0 c'
theorem Gw {X:Env}(h:X.out=none){c0 c':Ctx}:UH X c0 c'=TAc X.base c0 c':=by unfold UH;rw[h]
theorem Dx {X:Env}{q:Nat×Loop}(h:X.rnd=some q){c0 c':Ctx}:UH X c0 c'=TAc X.base c0 c':=by
 unfold UH;rw[h];cases X.out <;> rfl
def Run (X:Env)(k:List Item)(s:AS):Prop :=
 X.P.follows .mixedOrders=true→Dz X k→(X.rnd.isSome=true→X.str.contains 888888=true)→∀ (c0 c:Ctx) (a:Act) (ds:List Deferred),St X.fn.ntmps c a s→Pre X c0 c ds →
 ∀ (b:Frame) (cs:List Frame),X.P.funcs[b.fn]?=some X.fn→b.kind=.normal→b.roundOf=X.rnd.map (·.1) →
  ∃v fr r c',Steps X.P (lone (b.atR { a with defers:=ds } k) cs c.w) (lone fr cs c'.w)∧nV X b ds fr c'.w v∧Rep c' v r∧I' c'∧UH X c0 c'∧Wu X c'∧X.Q r c'.H
theorem Run.eqv {X:Env}{k:List Item}{s t:AS}(h:Run X k s)(he:t.eqv s):Run X k t :=
 fun hm hok hr c0 c a ds hst=>h hm hok hr c0 c a ds (hst.eqv he)
theorem Run.step {X:Env}{k k':List Item}{s:AS}(h:Run X k' s)(hok:Dz X k→Dz X k')
  (hs:∀ (c:Ctx) (a:Act) (ds:List Deferred) (b:Frame) (cs:List Frame),St X.fn.ntmps c a s→step X.P (lone (b.atR { a with defers:=ds } k) cs c.w)=.next (lone (b.atR { a with defers:=ds } k') cs c.w)):Run X k s:=by
 intro hm ho hr c0 c a ds hst hp b cs hf hk hb;obtain⟨v,fr,r,c',h1,h2⟩:=h hm (hok ho) hr c0 c a ds hst hp b cs hf hk hb;exact⟨v,fr,r,c',.head (hs c a ds b cs hst) h1,h2⟩
theorem Qy {X:Env}{i:Item}{k:List Item}:Dz X (i :: k)↔ZB X.fn.ntmps X.str X.hcs i=true∧Dz X k:=by
 unfold Dz;simp
theorem mC {X:Env}{k:List Item}{s:AS}(h:Run X k s):Run X (.code .skip :: k) s:=h.step (fun ho=>(Qy.1 ho).2) fun _ _ _ _ _ _=>stepR_skip
theorem fu {X:Env}{l:Nat}{k:List Item}{s:AS}(h:Run X k s):Run X (.code (.label l) :: k) s:=h.step (fun ho=>(Qy.1 ho).2) fun _ _ _ _ _ _=>stepR_label
theorem TO {X:Env}{id:Nat}{k:List Item}{s:AS}(h:Run X k s):Run X (.inBlock id :: k) s:=h.step (fun ho=>(Qy.1 ho).2) fun _ _ _ _ _ _=>stepR_inBlock
theorem Oc {P:Program}{b:Frame}{a:Act}{k:List Item}{cs:List Frame}{w:World}{c:Code}:step P (lone (b.atR a (.inScope c :: k)) cs w)=.next (lone (b.atR a k) cs w) :=
 step_lone_go (by simp[stepG,stepG.exec,Frame.atR])
theorem U7 {P:Program}{b:Frame}{a:Act}{k:List Item}{cs:List Frame}{w:World}{c:Code}:step P (lone (b.atR a (.code (.scope c) :: k)) cs w)=.next (lone (b.atR a (.code c :: .inScope c :: k)) cs w) :=
 step_lone_go (by simp[stepG,stepG.exec,Frame.atR])
theorem TP {X:Env}{c:Code}{k:List Item}{s:AS}(h:Run X k s):Run X (.inScope c :: k) s:=h.step (fun ho=>(Qy.1 ho).2) fun _ _ _ _ _ _=>Oc
theorem ru {X:Env}{x y:Code}{k:List Item}{s:AS}(h:Run X (.code x :: .code y :: k) s):Run X (.code (.seq x y) :: k) s :=
 h.step (fun ho=>by obtain⟨h1,h2⟩:=Qy.1 ho;simp[ZB,QO]at h1;exact Qy.2 ⟨h1.1,Qy.2 ⟨h1.2,h2⟩⟩) fun _ _ _ _ _ _=>stepR_seq
theorem fq {X:Env}{id:Nat}{x:Code}{k:List Item}{s:AS}(h:Run X (.code x :: .inBlock id :: k) s):Run X (.code (.block id x) :: k) s :=
 h.step (fun ho=>by obtain⟨h1,h2⟩:=Qy.1 ho;exact Qy.2 ⟨by simpa [ZB,QO]using h1,Qy.2 ⟨rfl,h2⟩⟩) fun _ _ _ _ _ _=>stepR_block
theorem fx {X:Env}{x:Code}{k:List Item}{s:AS}(h:Run X (.code x :: .inScope x :: k) s):Run X (.code (.scope x) :: k) s :=
 h.step (fun ho=>by obtain⟨h1,h2⟩:=Qy.1 ho;exact Qy.2 ⟨by simpa [ZB,QO]using h1,Qy.2 ⟨by simpa [ZB,QO]using h1,h2⟩⟩) fun _ _ _ _ _ _=>U7
theorem FD {X:Env}{x:Code}{k:List Item}{s:AS}(h:Run X (.code x :: .inLoop x :: k) s):Run X (.code (.loop x) :: k) s :=
 h.step (fun ho=>by obtain⟨h1,h2⟩:=Qy.1 ho;exact Qy.2 ⟨by simpa [ZB,QO]using h1,Qy.2 ⟨by simpa [ZB,QO]using h1,h2⟩⟩) fun _ _ _ _ _ _=>stepR_loop
theorem E0 {X:Env}{x:Code}{k:List Item}{s:AS}(h:Run X (.code x :: .inLoop x :: k) s):Run X (.inLoop x :: k) s :=
 h.step (fun ho=>by obtain⟨h1,h2⟩:=Qy.1 ho;exact Qy.2 ⟨by simpa [ZB,QO]using h1,Qy.2 ⟨h1,h2⟩⟩) fun _ _ _ _ _ _=>stepR_inLoop
theorem mv {X:Env}{o:Operand}{x y:Code}{k:List Item}{s:AS}{t:Bool}(ho:s.ev o=.bool t)(h:Run X (.code (if t then x else y) :: k) s):Run X (.code (.cond o x y) :: k) s :=
 h.step (fun ho=>by obtain⟨h1,h2⟩:=Qy.1 ho;simp[ZB,QO]at h1;refine Qy.2 ⟨?_,h2⟩;cases t <;> simp[ZB,h1]) fun c a ds b cs hst=>stepR_cond (by
  show a.eval o=_;have:=hst.ev o;rw[ho]at this;generalize a.eval o=q at this ⊢;cases this;rfl)
theorem ft {X:Env}{o:Operand}{x y:Code}{k:List Item}{s:AS}(ho:s.ev o=.TAf)(hx:Run X (.code x :: k) s) (hy:Run X (.code y :: k) s):Run X (.code (.cond o x y) :: k) s:=by
 intro hm hok hr c0 c a ds hst hp b cs hf hk hb;have hv:=hst.ev o;rw[ho]at hv;have hq:∃t,a.eval o=.bool t:=by
  generalize a.eval o=q at hv;cases hv;exact⟨_,rfl⟩
 obtain⟨t,ht⟩:=hq;obtain⟨h1,h2⟩:=Qy.1 hok;simp[ZB,QO]at h1;have ht':({ a with defers:=ds }:Act).eval o=.bool t:=ht;cases t
 ·obtain⟨v,fr,r,c',h3,h4⟩:=hy hm (Qy.2 ⟨by simp[ZB,h1],h2⟩) hr c0 c a ds hst hp b cs hf hk hb
  exact⟨v,fr,r,c',.head (stepR_cond ht') h3,h4⟩
 ·obtain⟨v,fr,r,c',h3,h4⟩:=hx hm (Qy.2 ⟨by simp[ZB,h1],h2⟩) hr c0 c a ds hst hp b cs hf hk hb
  exact⟨v,fr,r,c',.head (stepR_cond ht') h3,h4⟩
theorem Ge {id:Nat}:∀ {k k':List Item},exitTo id k=some k'→∀i∈k',i∈k
 | [],k',h=>by simp[exitTo]at h
 |i :: k,k',h=>by
  intro j hj;cases i <;> simp only[exitTo]at h
  case inBlock id' =>
   split at h
   ·cases h;exact ZBq _ hj
   ·exact ZBq _ (Ge h j hj)
  all_goals exact ZBq _ (Ge h j hj)
theorem mz {X:Env}{id:Nat}{k k':List Item}{s:AS}(hk:exitTo id k=some k')(h:Run X k' s):Run X (.code (.exit id) :: k) s :=
 h.step (fun ho i hi=>ho i (ZBq _ (Ge hk i hi))) fun _ _ _ _ _ _=>stepR_exit hk
def ZX (P:Program)(s:AS):ResultVar→Option AV
 | .tmp t=>some (s.get t)
 | .cell a t=>Qx P false t (s.get a) s.h
def JC (P:Program)(s:AS):List ResultVar→Option (List AV)
 | []=>some []
 |r :: l=>match ZX P s r,JC P s l with
  |some v,some vs=>some (v :: vs)
  |_,_=>none
def BH:List AV→AV
 | [v]=>v
 |l=>.tup l
def Al (P:Program)(fn:Func)(s:AS):Option AV:=(JC P s fn.results.toList).map BH
theorem O1 {P:Program}{b:Bool}{t:TypeId}{a v:AV}{h:List AO}(hl:Qx P b t a h=some v):a.TAk=true:=by
 unfold Qx at hl
 split at hl
 ·cases hl
 ·split at hl
  ·rfl
  ·rfl
  ·cases hl
theorem G2 {P:Program}{N:Nat}{c:Ctx}{a:Act}{s:AS}(hst:St N c a s):∀ (l:List ResultVar) (vs:List AV),JC P s l=some vs →
  ∃xs:List Value,(l.mapM (m:=Sem) fun
   | .tmp t=>pure (a.tmps.getD t undef)
   | .cell ad t=>do loadVar t (←asAddr (a.tmps.getD ad undef))).run P c.w=.ok xs c.w∧TAF c xs.toArray vs
 | [],vs,h=>by
  simp[JC]at h;subst h;exact⟨[],rfl,rfl,by simp⟩
 |r :: l,vs,h=>by
  simp only[JC]at h
  split at h
  ·rename_i v vs' h1 h2
   cases h;obtain⟨xs,h3,h4⟩:=G2 hst l vs' h2;have one:∃x,((match r with
     | .tmp t=>pure (a.tmps.getD t undef)
     | .cell ad t=>do loadVar t (←asAddr (a.tmps.getD ad undef)):Sem Value)).run P c.w=.ok x c.w∧Rep c x v:=by
    cases r with
    |tmp t=>simp[ZX]at h1;subst h1;exact⟨_,rfl,hst.TAP t⟩
    |cell ad t =>
     simp only[ZX]at h1;have hp:=O1 h1;rw[←hst.heap]at h1;obtain⟨y,g1,g2⟩:=Iw (P:=P) hst.H_ (hst.TAP ad) h1;obtain⟨b,hb⟩:=(hst.TAP ad).TAk hp;rw[hb]at g1;refine⟨y,?_,g2⟩;simp only[hb,asAddr,ZAp,Sem.run_pure,ZAR]
     simpa [Instr.loadAt,Instr.sureAddr]using g1
   obtain⟨x,g1,g2⟩:=one;refine⟨x :: xs,?_,by simp[h4.1.symm],fun j hj=>?_⟩
   ·simp only[List.mapM_cons,ZAp]
    rw[g1];simp only[ZAR];rw[h3];rfl
   ·cases j with
    |zero=>simpa using g2
    |succ j =>
     have:=h4.2 j (by simpa using hj)
     simpa using this
  ·cases h
theorem eU {P:Program}{fn:Func}{N:Nat}{c:Ctx}{a:Act}{s:AS}(hst:St N c a s){v:AV}(h:Al P fn s=some v):∃x,(results fn a.tmps).run P c.w=.ok x c.w∧Rep c x v:=by
 unfold Al at h;cases hl:JC P s fn.results.toList with
 |none=>simp[hl]at h
 |some vs =>
  simp[hl]at h;subst h;obtain⟨xs,h1,h2⟩:=G2 hst _ vs hl;have hm:(fn.results.mapM (m:=Sem) fun
   | .tmp t=>pure (a.tmps.getD t undef)
   | .cell ad t=>do loadVar t (←asAddr (a.tmps.getD ad undef))).run P c.w=.ok xs.toArray c.w:=by
   rw[←ZDb (xs:=fn.results),List.mapM_toArray];simp only[Sem.run_map];rw[h1];rfl
  have key:(results fn a.tmps).run P c.w=.ok (if h:xs.toArray.size=1 then xs.toArray[0]else .tuple xs.toArray) c.w:=by
   unfold results;rw[ZAp]
   erw[hm]
   rfl
  rw[key];clear key hm h1 hl;have hlen:xs.length=vs.length:=by simpa using h2.1
  match xs,vs,hlen,h2 with
  | [x],[v],_,h2 =>
   refine⟨x,by simp,?_⟩;have:=h2.2 0 (by simp)
   simpa [BH]using this
  | [],[],_,_=>exact⟨.tuple #[],by simp,.tup _ _ rfl (by simp)⟩
  |x :: y :: xs,v :: u :: vs,_,h2=>exact⟨.tuple (x :: y :: xs).toArray,by simp,.tup _ _ h2.1 h2.2⟩
def ml (r:Loop):Bool:=match r.pending with |none=>true |some .ret=>true |_=>false
def TD (X:Env)(s:AS):Option AV:=match X.rnd,X.out with |none,none=>Al X.P X.fn s |some _,some (_,_,r1)=>(match ml r1 with |true=>some .any |false=>none) |_,_=>none
def wy (X:Env)(s:AS):Option AV:=match X.rnd,X.out with |none,none=>Al X.P X.fn s |some _,none=>some .any |_,_=>none
def TAC (X:Env)(s:AS):Prop:=∃v,TD X s=some v∧X.Q v s.h
def TBS (X:Env)(s:AS):Prop:=∃v,wy X s=some v∧X.Q v s.h
theorem TAC.res {X:Env}{s:AS}(h:TAC X s)(hn:X.rnd=none):X.out=none∧∃v,Al X.P X.fn s=some v∧X.Q v s.h:=by
 obtain⟨v,h1,h2⟩:=h;unfold TD at h1;rw[hn]at h1;cases ho:X.out with
 |none=>rw[ho]at h1;exact⟨rfl,v,h1,h2⟩
 |some q=>rw[ho]at h1;cases h1
theorem eW {r:Loop}(h:ml r=true):r.pending.getD .ret=.ret∧∀id,r.pending≠some (.exit id):=by
 unfold ml at h;cases hp:r.pending with
 |none=>exact⟨rfl,fun id=>by simp⟩
 |some c =>
  rw[hp]at h;cases c <;> first |exact⟨rfl,fun id=>by simp⟩ |cases h
theorem TAC.rnd {X:Env}{s:AS}(h:TAC X s){l:Nat×Loop}(hn:X.rnd=some l):(∃q,X.out=some q∧ml q.2.2=true)∧X.Q .any s.h:=by
 obtain⟨v,h1,h2⟩:=h;unfold TD at h1;rw[hn]at h1;cases ho:X.out with
 |none=>rw[ho]at h1;cases h1
 |some q =>
  obtain⟨q1,q2,q3⟩:=q;rw[ho]at h1;simp only at h1;cases hr:ml q3 with
  |true=>rw[hr]at h1;cases h1;exact⟨⟨_,rfl,hr⟩,h2⟩
  |false=>rw[hr]at h1;cases h1
theorem TBS.res {X:Env}{s:AS}(h:TBS X s)(hn:X.rnd=none):X.out=none∧∃v,Al X.P X.fn s=some v∧X.Q v s.h:=by
 obtain⟨v,h1,h2⟩:=h;unfold wy at h1;rw[hn]at h1;cases ho:X.out with
 |none=>rw[ho]at h1;exact⟨rfl,v,h1,h2⟩
 |some q=>rw[ho]at h1;cases h1
theorem TBS.rnd {X:Env}{s:AS}(h:TBS X s){l:Nat×Loop}(hn:X.rnd=some l):X.out=none∧X.Q .any s.h:=by
 obtain⟨v,h1,h2⟩:=h;unfold wy at h1;rw[hn]at h1;cases ho:X.out with
 |none=>rw[ho]at h1;cases h1;exact⟨rfl,h2⟩
 |some q=>rw[ho]at h1;cases h1
theorem SH {m:Nat}{c0 c:Ctx}{w':World}{l:Nat}(hx:TAc m c0 c)(hl:c0.w.heap.size≤l)(hsz:w'.heap.size=c.w.heap.size)(TAl:∀b,b≠l→w'.heap[b]?=c.w.heap[b]?)
  (hos:w'.os=c.w.os) (TCJ:w'.tape=c.w.tape) (TBj:w'.output=c.w.output):TAc m c0 ⟨w',c.S,c.γ,c.H⟩ :=
 ⟨fun id o hid ho=>hx.hle id o hid ho,hx.TAe,hx.TA5,hx.TAx,fun b hb hn=>(TAl b (by omega)).trans (hx.same b hb hn),by rw[hsz];exact hx.size,hos.trans hx.os,TCJ.trans hx.tape,TBj.trans hx.output⟩
theorem me {c:Ctx}{w':World}{l:Nat}(hS:¬ c.S l)(TAl:∀ b,b≠l→w'.heap[b]?=c.w.heap[b]?){v:Value}{a:AV}(h:Rep c v a):Rep ⟨w',c.S,c.γ,c.H⟩ v a :=
 h.ext (fun _ h=>h) (fun b hb=>TAl b (fun e=>hS (e▸hb))) (HLe.refl c)
theorem Fo {c:Ctx}{w':World}{l:Nat}(hr:I' c)(hS:¬ c.S l)(hO:¬ Ai c l)(hsz:c.w.heap.size≤w'.heap.size)(TAl:∀b,b≠l→b<c.w.heap.size→w'.heap[b]?=c.w.heap[b]?):I' ⟨w',c.S,c.γ,c.H⟩:=by
 have TAa:∀ {v:Value} {a:AV},Rep c v a→Rep ⟨w',c.S,c.γ,c.H⟩ v a:=fun h=>h.ext (fun _ h=>h) (fun b hb=>TAl b (fun e=>hS (e▸hb)) (hr.bound b hb)) (HLe.refl c)
 refine⟨?_,?_,?_,hr.inj,fun b hb=>Nat.lt_of_lt_of_le (hr.bound b hb) hsz⟩
 ·intro id v n f ho
  rcases hr.row id v n f ho with h | ⟨b,sz,cs,el,h1,h2,h3,h4,h5,h6⟩
  ·exact .inl h
  ·exact .inr ⟨b,sz,cs,el,h1,(TAl b (fun e=>hO (e▸⟨id,_,sz,ho,rfl,h1⟩)) (c_.1 h2).1).trans h2,h3,h4,h5,fun j hj=>TAa (h6 j hj)⟩
 ·intro id v n f ho
  rcases hr.con id v n f ho with h | ⟨b,sz,cs,el,fr,h1,h2,h3,h4,h5,h6⟩
  ·exact .inl h
  ·exact .inr ⟨b,sz,cs,el,fr,h1,(TAl b (fun e=>hS (e▸h5)) (c_.1 h2).1).trans h2,h3,h4,h5,fun j hj=>TAa (h6 j hj)⟩
 ·intro id k g ho
  obtain⟨b,sz,es,cl,h1,h2,h3,h4⟩:=hr.map id k g ho;exact⟨b,sz,es,cl,h1,(TAl b (fun e=>hO (e▸⟨id,_,sz,ho,rfl,h1⟩)) (c_.1 h2).1).trans h2,h3,h4.ext fun v a hv=>TAa hv⟩
theorem Kept.TCQ {c:Ctx}{w':World}{l l':Nat}{o:Obj}(h:Kept c l' o)(hne:l'≠l)(TAl:∀b,b≠l→w'.heap[b]?=c.w.heap[b]?):Kept ⟨w',c.S,c.γ,c.H⟩ l' o :=
 ⟨(TAl l' hne).trans h.1,h.2.1,h.2.2⟩
theorem Jl (w:World)(l:Nat)(o:Obj):∀b,b≠l→(w.putObj l o).heap[b]?=w.heap[b]?:=fun b hb=>World.putObj_heap_other hb
theorem St.TCQ {N:Nat}{c:Ctx}{a:Act}{s:AS}(h:St N c a s){l:Nat}{o o':Obj}(hk:Kept c l o):St N ⟨c.w.putObj l o',c.S,c.γ,c.H⟩ a s :=
 ⟨h.size,h.defers,fun i=>me hk.2.1 (Jl c.w l o') (h.TAP i),h.heap,Fo h.H_ hk.2.1 hk.2.2 (by simp) fun b hb _=>Jl c.w l o' b hb⟩
theorem W1 {X:Env}(hn:X.rnd=none)(c:Ctx):Wu X c:=fun l r e=>by rw[hn]at e;cases e
theorem Na {X:Env}{c:Ctx}(h:∀l r,X.rnd=some (l,r)→Kept c l (.loop r)):Wu X c:=fun l r e=>⟨r.state,r.pending,h l r e⟩
theorem ED {X:Env}{c0:Ctx}{s:AS}{a:Act}{b:Frame}{cs:List Frame}(h:∃ v,Al X.P X.fn s=some v∧X.Q v s.h)(hf:X.P.funcs[b.fn]?=some X.fn)(hk:b.kind=.normal)(hn:X.rnd=none) :
  ∀ (ds:List Deferred) (c:Ctx) (fr:Frame),St X.fn.ntmps c a s→TAc X.base c0 c→Marks c0 c ds →
   fr.fn=b.fn→fr.tmps=a.tmps→fr.mode=.returning→fr.kind=.normal→fr.defers=ds →
   ∃v fr' r c',Steps X.P (lone fr cs c.w) (lone fr' cs c'.w)∧(fr'.fn=b.fn∧fr'.leaving X.P c'.w (.returned v))∧Rep c' v r∧I' c'∧TAc X.base c0 c'∧Wu X c'∧X.Q r c'.H
 | [],c,fr,hst,hx,hm,g1,g2,g3,g4,g5=>by
  obtain⟨r,h1,h2⟩:=h;obtain⟨x,h3,h4⟩:=eU hst h1;exact⟨x,fr,r,c,.refl _ _,⟨g1,g3,g5,g4,X.fn,by rw[g1];exact hf,by rw[g2];exact h3⟩,h4,hst.H_,hx,W1 hn c,by rw[hst.heap];exact h2⟩
 |d :: ds,c,fr,hst,hx,hm,g1,g2,g3,g4,g5=>by
  obtain⟨⟨D,rfl,hD,hkD,TDw⟩,hm⟩:=hm;have TCi:=step_collected (P:=X.P) (fr:=fr) (cs:=cs) (w:=c.w) (by rw[g3];simp) g5 rfl (run_takeDeferred hkD.1);have hms:Marks c0 ⟨c.w.putObj D (.deferred none),c.S,c.γ,c.H⟩ ds:=by
   have:∀ds:List Deferred,T4 D∉ds→Marks c0 c ds→Marks c0 ⟨c.w.putObj D (.deferred none),c.S,c.γ,c.H⟩ ds:=by
    intro ds
    induction ds with
    |nil=>exact fun _ _=>trivial
    |cons d ds ih =>
     rintro hn ⟨⟨D',rfl,q1,q2,q3⟩,q⟩;refine⟨⟨D',rfl,q1,q2.TCQ (fun e=>hn (by rw[e];simp)) (Jl c.w D _),q3⟩,ih (fun hh=>hn (by simp[hh])) q⟩
   exact this ds TDw hm
  obtain⟨v,fr',r,c',k1,k2⟩:=ED h hf hk hn ds ⟨c.w.putObj D (.deferred none),c.S,c.γ,c.H⟩ { fr with defers:=ds } (hst.TCQ hkD)
   (SH hx hD (by simp) (Jl c.w D _) rfl rfl rfl) hms g1 g2 g3 g4 rfl
  exact⟨v,fr',r,c',.head TCi k1,k2⟩
theorem rt {X:Env}{k:List Item}{s:AS}(h:TAC X s):Run X (.code .ret :: k) s:=by
 intro _ ho hr c0 c a ds hst hp b cs hf hk hb;cases hrn:X.rnd with
 |none =>
  rw[hrn,ZEC]at hb;obtain⟨v,fr',r,c',k1,k2,k3,k4,k5,k6⟩:=ED (cs:=cs) (h.res hrn).2 hf hk hrn ds c { b.atR { a with defers:=ds } (.code .ret :: k)with mode:=.returning } hst hp.ext hp.marks rfl rfl rfl hk rfl;exact⟨v,fr',r,c',.head (stepR_ret hb) k1,by unfold nV;rw[hrn];exact k2,k3,k4,by rw[Gw (h.res hrn).1];exact k5,k6⟩
 |some l =>
  obtain⟨⟨⟨q1,q2,q3⟩,hq,hl⟩,hQ⟩:=h.rnd hrn;obtain⟨hl1,hl2⟩:=eW hl;exact⟨undef,_,.any,c,.refl _ _,by unfold nV;rw[hrn,hq];exact⟨a,k,by rw[hl1],fun id e=>absurd e (hl2 id)⟩,.any _,hst.H_,by rw[Dx hrn];exact hp.ext,Na (fun l' r' e=>(hp.rnd l' r' e).1),by rw[hst.heap];exact hQ⟩
theorem fw {X:Env}{id:Nat}{k:List Item}{s:AS}{q:Nat×Loop}{l:Nat}{r r1:Loop}(hrn:X.rnd=some q)(ho:X.out=some (l,r,r1)) (hp:r1.pending=some (.exit id)) (hk:exitTo id k=none) (hQ:X.Q .any s.h):Run X (.code (.exit id) :: k) s:=by
 intro _ _ hr c0 c a ds hst TEa b cs hf hkd hb;exact⟨undef,_,.any,c,.refl _ _,by unfold nV;rw[hrn,ho];exact⟨a,k,by rw[hp];rfl,fun i e=>by rw[hp]at e;cases e;exact hk⟩,.any _,hst.H_,by rw[Dx hrn];exact TEa.ext,Na (fun l' r' e=>(TEa.rnd l' r' e).1),by rw[hst.heap];exact hQ⟩
theorem rq {X:Env}{s:AS}(h:TBS X s):Run X [] s:=by
 intro _ ho hr c0 c a ds hst hp b cs hf hk hb;cases hrn:X.rnd with
 |none =>
  rw[hrn,ZEC]at hb;obtain⟨v,fr',r,c',k1,k2,k3,k4,k5,k6⟩:=ED (cs:=cs) (h.res hrn).2 hf hk hrn ds c { b.atR { a with defers:=ds } []with mode:=.returning } hst hp.ext hp.marks rfl rfl rfl hk rfl;exact⟨v,fr',r,c',.head (stepR_end hb) k1,by unfold nV;rw[hrn];exact k2,k3,k4,by rw[Gw (h.res hrn).1];exact k5,k6⟩
 |some l =>
  obtain⟨hq,hQ⟩:=h.rnd hrn;exact⟨undef,_,.any,c,.refl _ _,by unfold nV;rw[hrn,hq];exact⟨a,rfl⟩,.any _,hst.H_,by rw[Dx hrn];exact hp.ext,Na (fun l' r' e=>(hp.rnd l' r' e).1),by rw[hst.heap];exact hQ⟩
structure Md where
 all:Array Oper
 strict:Nat→Bool
 B':Bool
 base:Option Nat
 i:Nat
 nx:Nat
def Md.nid (M:Md):Nat→Option Nat:=match M.base with
 |none=>fun _=>none
 |some b=>CM M.B' M.all b
def Md.next (M:Md)(o:Oper):Md:={ M with i:=M.i+1,nx:=match M.base with |none=>M.nx |some _=>if QH M.B' o.op=2 then M.nx+1 else M.nx }
def Md.ok (M:Md)(rest:List Oper):Prop:=M.all.toList.drop M.i=rest∧∀b,M.base=some b→M.nx=b+CQ M.B' M.all M.i
def TBF (X:Env)(M:Md)(rest:List Oper)(k:List Item)(s:AS):Prop :=
 ∃s',TAb X.P X.tok M.strict M.B' M.nid M.all (ZCX M.i rest.length) s s'∧Run X k s'
theorem TBF.eqv {X:Env}{M:Md}{rest:List Oper}{k:List Item}{s t:AS}(h:TBF X M rest k s)(he:t.eqv s):TBF X M rest k t:=by
 obtain⟨s',h1,h2⟩:=h;obtain⟨t',h3,h4⟩:=h1.eqv (t:=t) ⟨he.n0.symm,he.hid.symm,he.len.symm,he.h.symm,fun i=>(he.get i).symm⟩;exact⟨t',h3,h2.eqv ⟨h4.n0.symm,h4.hid.symm,h4.len.symm,h4.h.symm,fun i=>(h4.get i).symm⟩⟩
theorem St.D_ {N:Nat}{c:Ctx}{a:Act}{s:AS}(h:St N c a s)(n:Nat):St N ⟨c.w,c.S,c.γ,s.h ++ ZAJ n .D_⟩ a { s with h:=s.h ++ ZAJ n .D_ }∧Ext c ⟨c.w,c.S,c.γ,s.h ++ ZAJ n .D_⟩:=by
 have TAM:∀ (i:Nat) (o:AO),(s.h ++ ZAJ n AO.D_)[i]?=some o→o≠.D_→c.H[i]?=some o:=by
  intro i o ho hne;rw[h.heap];rw[ZDn]at ho
  split at ho
  ·exact ho
  ·exfalso
   have:=ZAC ho;rw[List.mem_replicate]at this;exact hne this.2
 have hold:∀ (i:Nat) (o:AO),c.H[i]?=some o→(s.h ++ ZAJ n AO.D_)[i]?=some o:=by
  intro i o ho;rw[h.heap]at ho;rw[S_ (R_.1 ho).1];exact ho
 have J':Ext c ⟨c.w,c.S,c.γ,s.h ++ ZAJ n .D_⟩:=by
  refine⟨?_,fun _ h=>h,fun _ h=>.inl h,?_,fun _ _ _=>rfl,N' _,rfl,rfl,rfl⟩
  ·intro i o ho
   have h1:=hold i o ho;cases o with
   |D_=>trivial
   |dead=>exact h1
   |row v _ _=>exact .inr ⟨v,by simp[inf,h1,AO.info],.inr ⟨rfl,rfl⟩⟩
   |con v _ _=>exact .inr ⟨v,by simp[inf,h1,AO.info],.inr ⟨rfl,rfl⟩⟩
   |map k g=>exact .inr ⟨⟨k,g,h1⟩,rfl⟩
  ·rintro b ⟨i,o,sz,ho,TAO,hg⟩
   exact .inr ⟨i,o,sz,TAM i o ho (by rintro rfl;simp[AO.owned]at TAO),TAO,hg⟩
 refine⟨⟨h.size,h.defers,fun i=>J'.rep h.H_ (h.TAP i),rfl,?_⟩,J'⟩;refine⟨?_,?_,?_,?_,h.H_.bound⟩
 ·intro id v m f ho
  rcases h.H_.row id v m f (TAM _ _ ho (by simp))with h1 | ⟨b,sz,cs,el,h1,h2,h3,h4,h5,h6⟩
  ·exact .inl h1
  ·exact .inr ⟨b,sz,cs,el,h1,h2,h3,h4,h5,fun j hj=>J'.rep h.H_ (h6 j hj)⟩
 ·intro id v m f ho
  rcases h.H_.con id v m f (TAM _ _ ho (by simp))with h1 | ⟨b,sz,cs,el,fr,h1,h2,h3,h4,h5,h6⟩
  ·exact .inl h1
  ·exact .inr ⟨b,sz,cs,el,fr,h1,h2,h3,h4,h5,fun j hj=>J'.rep h.H_ (h6 j hj)⟩
 ·intro id k g ho
  obtain⟨b,sz,es,cl,h1,h2,h3,h4⟩:=h.H_.map id k g (TAM _ _ ho (by simp));exact⟨b,sz,es,cl,h1,h2,h3,h4.ext fun v a hv=>J'.rep h.H_ hv⟩
 ·intro i i' o o' b sz sz' ho ho' h1 h2 hg hg'
  exact h.H_.inj _ _ _ _ _ _ _ (TAM _ _ ho (by rintro rfl;simp[AO.owned]at h1)) (TAM _ _ ho' (by rintro rfl;simp[AO.owned]at h2)) h1 h2 hg hg'
theorem St.drew {N:Nat}{c:Ctx}{a:Act}{s:AS}(h:St N c a s):St N { c with w:=c.w.drew } a s∧Ext c { c with w:=c.w.drew }:=by
 have J':Ext c { c with w:=c.w.drew }:=⟨HLe.refl c,fun _ h=>h,fun _ h=>.inl h,fun _ h=>.inr h,fun _ _ _=>rfl,N' _,rfl,rfl,rfl⟩
 have TAa:∀ {v a},Rep c v a→Rep { c with w:=c.w.drew } v a:=fun hv=>J'.rep h.H_ hv
 refine⟨⟨h.size,h.defers,fun i=>TAa (h.TAP i),h.heap,?_⟩,J'⟩;refine⟨?_,?_,?_,h.H_.inj,h.H_.bound⟩
 ·intro id v m f ho
  rcases h.H_.row id v m f ho with h1 | ⟨b,sz,cs,el,h1,h2,h3,h4,h5,h6⟩
  ·exact .inl h1
  ·exact .inr ⟨b,sz,cs,el,h1,h2,h3,h4,h5,fun j hj=>TAa (h6 j hj)⟩
 ·intro id v m f ho
  rcases h.H_.con id v m f ho with h1 | ⟨b,sz,cs,el,fr,h1,h2,h3,h4,h5,h6⟩
  ·exact .inl h1
  ·exact .inr ⟨b,sz,cs,el,fr,h1,h2,h3,h4,h5,fun j hj=>TAa (h6 j hj)⟩
 ·intro id k g ho
  obtain⟨b,sz,es,cl,h1,h2,h3,h4⟩:=h.H_.map id k g ho;exact⟨b,sz,es,cl,h1,h2,h3,h4.ext fun v a hv=>TAa hv⟩
theorem Gn {N:Nat}{ops:Array Oper}(h:tB N ops=true):∀o∈ops.toList,∀i,o.dst=some i→i<N:=by
 intro o ho i hi;have:=(ZCg.1 h) o (by simpa using ho)
 simpa [hi]using this
theorem Run.region {X:Env}{id:Nat}{ops:Array Oper}{draw:Bool}{k:List Item}{s s':AS}(h:Run X k s')
  (hr:Dz X (.code (.region id ops draw) :: k)→X.P.follows .mixedOrders=true→∀ (c:Ctx) (a:Act) (ds:List Deferred),St X.fn.ntmps c a s→(∀p∈X.tok,TAT c p) →
   (Code.region id ops draw).wpIn (A0 (X.rnd.map (·.1))) 0 X.P (fun e a' w'=>e=.normal∧∃ (a1:Act) (c':Ctx),a'={ a1 with defers:=ds }∧c'.w=w'∧St X.fn.ntmps c' a1 s'∧Ext c c') { a with defers:=ds } c.w):Run X (.code (.region id ops draw) :: k) s:=by
 intro hm ho hrn c0 c a ds hst hp b cs hf hk hb;obtain⟨e,a',w',⟨rfl,a1,c',rfl,rfl,TAt,hx⟩,TDx⟩:=hr ho hm c a ds hst (fun p hp'=>(hp.tok p hp').1) b k cs hb trivial (IM _ _);obtain⟨v,fr,r,c'',h1,h2⟩:=h hm (Qy.1 ho).2 hrn c0 c' a1 ds TAt (hp.step (hx.toB _)) b cs hf hk hb;exact⟨v,fr,r,c'',Steps.trans (EW.1 TDx) h1,h2⟩
theorem W5 {X:Env}{id:Nat}{ops:Array Oper}{k:List Item}{s:AS}{st:Nat→Bool}(h:TBF X ⟨ops,st,true,none,0,0⟩ ops.toList k s.clr):Run X (.code (.region id ops false) :: k) s:=by
 obtain⟨s',h1,h2⟩:=h;refine h2.region fun ho hm c a ds hst TAj=>?_
 have hok:=(Qy.1 ho).1;simp only[ZB,QO,w_]at hok;refine wpIn_region ?_;have e:ZAD ops.size=ZCX 0 ops.toList.length:=by simp[ZDr]
 rw[e];exact TAb.sound (Gn hok.1) _ hst.clr TAj h1 fun a' c' TAt hx=>⟨rfl,a',c',rfl,rfl,TAt,hx⟩
def Ez (B':Bool)(ops:Array Oper)(s:AS):AS:={ s.clr with h:=s.h ++ ZAJ (Ew B' ops) .D_ }
theorem AD {X:Env}{id:Nat}{ops:Array Oper}{k:List Item}{s:AS}(T:Nat→Prop)
  (h:∃s',TAW X.P X.tok (HB X.str id) (X.hcs.contains id) (CM (X.hcs.contains id) ops s.h.length) ops (cS X.str id) T (ZCX 0 ops.toList.length) (Ez (X.hcs.contains id) ops s) s'∧Run X k s'):Run X (.code (.region id ops true) :: k) s:=by
 obtain⟨s',h1,h2⟩:=h;refine h2.region fun ho hm c a ds hst TAj=>?_
 have hok:=(Qy.1 ho).1;simp only[ZB,QO,w_,Bool.not_true,Bool.false_or]at hok;refine wpIn_region_any hm ?_;obtain⟨TBZ,hx1⟩:=hst.clr.drew;obtain⟨TCs,hx2⟩:=TBZ.D_ (Ew (X.hcs.contains id) ops);have e:ops.toList.length=(ZAD ops.size).length:=by simp
 have e2:ZCX 0 ops.toList.length=ZAD ops.size:=by simp[ZDr]
 have e3:ops.size=(ZAD ops.size).length:=by simp
 have key:=iy (P:=X.P) (fl:=cS X.str id) (T:=T) (strict:=HB X.str id) (B':=X.hcs.contains id) (all:=ops) (N:=X.fn.ntmps) (base:=s.h.length) (Gn hok.1) hok.2 (s':=s')
  (ro:=X.rnd.map (·.1)) (ds:=ds) (Q:=fun e a' w'=>e=.normal∧∃ (a1:Act) (c':Ctx),a'={ a1 with defers:=ds }∧c'.w=w'∧St X.fn.ntmps c' a1 s'∧Ext c c')
  (ZAD ops.size) (Array.replicate ops.size false) (by simp) (fun k o _ hl=>by exfalso;simp[ZAO]at hl) List.pairwise_lt_range (fun i=>by
   rw[ZBc];constructor
   ·intro hi;exact⟨hi,by simp[ZAO,hi]⟩
   ·exact fun h=>h.1) TCs (fun p hp=>(TAj p hp).ext (hx1.trans hx2)) (fun i hi id' hid=>?_) (fun m t _ hl=>by exfalso;simp[ZAO]at hl) ⟨s',by rw[←e2];exact h1,.C' _⟩ (fun a' c' TAt hx=>⟨rfl,a',c',rfl,rfl,TAt,(hx1.trans hx2).trans hx⟩)
 ·rw[←e3]at key
  exact key
 ·unfold CM at hid
  cases hoi:ops[i]? with
  |none=>simp[hoi]at hid
  |some oi =>
   simp only[hoi]at hid
   split at hid
   ·rename_i hc
    simp only[s_]at hid;have:=m9 hoi hc;show(s.clr.h ++ _)[id']?=_;have hl:s.clr.h.length=s.h.length:=rfl;rw[d_ (by omega)];rw[ZAs];rw[N_ (by omega)]
   ·cases hid
theorem mw {X:Env}{id:Nat}{ops:Array Oper}{k:List Item}{s:AS}(hf:DM X.str id=true)
  (h:TBF X ⟨ops,HB X.str id,X.hcs.contains id,some s.h.length,0,s.h.length⟩ ops.toList k (Ez (X.hcs.contains id) ops s)):Run X (.code (.region id ops true) :: k) s:=by
 obtain⟨s',h1,h2⟩:=h;exact AD (fun _=>True) ⟨s',TAb.toT (OA hf) h1,h2⟩
def Sub (m:Nat)(s s':AS):Prop:=∀N c a,St N c a s→∃c':Ctx,c'.w=c.w∧TAc m c c'∧St N c' a s'
theorem Run.sub {X:Env}{k:List Item}{s s':AS}(h:Run X k s')(hs:Sub X.base s s'):Run X k s:=by
 intro hm ho hr c0 c a ds hst hp b cs hf hk hb;obtain⟨c',hw,hx,TAt⟩:=hs _ c a hst;obtain⟨v,fr,r,c'',h1,h2⟩:=h hm ho hr c0 c' a ds TAt (hp.step hx) b cs hf hk hb;rw[hw]at h1;exact⟨v,fr,r,c'',h1,h2⟩
theorem Sub.C' (m:Nat)(s:AS):Sub m s s:=fun _ c _ h=>⟨c,rfl,(Ext.refl c).toB m,h⟩
theorem Sub.trans {m:Nat}{a b c:AS}(h:Sub m a b)(k:Sub m b c):Sub m a c:=fun N x y hst=>by
 obtain⟨c1,h1,h2,h3⟩:=h N x y hst;obtain⟨c2,k1,k2,k3⟩:=k N c1 y h3;exact⟨c2,k1.trans h1,h2.trans k2,k3⟩
theorem XB {m:Nat}{s:AS}(id:Nat){ver n:Nat}{f:Nat→AV}(ho:s.h[id]?=some (.row ver n f)):Sub m s { s with h:=s.h.set id (.con ver n f) }:=by
 intro N c a hst;have hH:=hst.heap;rw[←hH]at ho;have hlt:=(R_.1 ho).1;have hat:(c.H.set id (.con ver n f))[id]?=some (.con ver n f):=by simp[hlt]
 have TAH:∀i,i≠id→(c.H.set id (AO.con ver n f))[i]?=c.H[i]?:=fun i hi=>L_ (v_ hi)
 let S':Nat→Prop:=fun b=>c.S b∨∃sz,c.γ id=some (b,sz)
 let c':Ctx:=⟨c.w,S',c.γ,c.H.set id (.con ver n f)⟩
 have J':Ext c c':=by
  refine⟨?_,fun b h=>.inl h,?_,?_,fun _ _ _=>rfl,N' _,rfl,rfl,rfl⟩
  ·intro i o hoi
   by_cases hi:i=id
   ·subst hi
    rw[ho]at hoi;cases hoi;exact .inr ⟨ver,by simp[c',inf,hat,AO.info],.inr ⟨rfl,rfl⟩⟩
   ·have h1:=HLe.refl c i o hoi
    have e1:=TAH i hi;cases o with
    |D_=>trivial
    |dead=>simpa [c',e1]using h1
    |row v _ _=>simpa [c',e1,inf]using h1
    |con v _ _=>simpa [c',e1,inf]using h1
    |map k g=>simpa [c',e1]using h1
  ·rintro b (h | ⟨sz,h⟩)
   ·exact .inl h
   ·exact .inr (.inr ⟨id,_,sz,ho,rfl,h⟩)
  ·rintro b ⟨i,o,sz,hoi,TAO,hg⟩
   by_cases hi:i=id
   ·subst hi
    simp only[c']at hoi;rw[hat]at hoi;cases hoi;simp[AO.owned]at TAO
   ·simp only[c']at hoi
    rw[TAH i hi]at hoi;exact .inr ⟨i,o,sz,hoi,TAO,hg⟩
 have TAa:∀ {v a},Rep c v a→Rep c' v a:=fun hv=>J'.rep hst.H_ hv
 refine⟨c',rfl,J'.toB m,hst.size,hst.defers,fun i=>TAa (hst.TAP i),by simp[c',hH],?_⟩;have hnS:∀ {i o b sz},i≠id→c.H[i]?=some o→o.owned=true→c.γ i=some (b,sz)→¬c.S b→¬S' b:=by
  rintro i o b sz hi hoi TAO hg hn (h | ⟨sz',h⟩)
  ·exact hn h
  ·exact hi (hst.H_.inj _ _ _ _ _ _ _ hoi ho TAO rfl hg h)
 refine⟨?_,?_,?_,?_,?_⟩
 ·intro i v k g hoi
  by_cases hi:i=id
  ·subst hi;simp only[c']at hoi;rw[hat]at hoi;cases hoi
  ·simp only[c']at hoi
   rw[TAH i hi]at hoi;rcases hst.H_.row i v k g hoi with h | ⟨b,sz,cs,el,h1,h2,h3,h4,h5,h6⟩
   ·exact .inl h
   ·exact .inr ⟨b,sz,cs,el,h1,h2,h3,h4,hnS hi hoi rfl h1 h5,fun j hj=>TAa (h6 j hj)⟩
 ·intro i v k g hoi
  by_cases hi:i=id
  ·subst hi
   simp only[c']at hoi;rw[hat]at hoi;cases hoi;rcases hst.H_.row i ver n f ho with h | ⟨b,sz,cs,el,h1,h2,h3,h4,h5,h6⟩
   ·exact .inl h
   ·exact .inr ⟨b,sz,cs,el,(0,0),h1,h2,h3,h4,.inr ⟨sz,h1⟩,fun j hj=>TAa (h6 j hj)⟩
  ·simp only[c']at hoi
   rw[TAH i hi]at hoi;rcases hst.H_.con i v k g hoi with h | ⟨b,sz,cs,el,fr,h1,h2,h3,h4,h5,h6⟩
   ·exact .inl h
   ·exact .inr ⟨b,sz,cs,el,fr,h1,h2,h3,h4,.inl h5,fun j hj=>TAa (h6 j hj)⟩
 ·intro i k g hoi
  by_cases hi:i=id
  ·subst hi;simp only[c']at hoi;rw[hat]at hoi;cases hoi
  ·simp only[c']at hoi
   rw[TAH i hi]at hoi;obtain⟨b,sz,es,cl,h1,h2,h3,h4⟩:=hst.H_.map i k g hoi;exact⟨b,sz,es,cl,h1,h2,hnS hi hoi rfl h1 h3,h4.ext fun v a hv=>TAa hv⟩
 ·intro i i' o o' b sz sz' hoi TAm h1 h2 hg hg'
  by_cases hi:i=id
  ·subst hi;simp only[c']at hoi;rw[hat]at hoi;cases hoi;simp[AO.owned]at h1
  ·by_cases hi':i'=id
   ·subst hi';simp only[c']at TAm;rw[hat]at TAm;cases TAm;simp[AO.owned]at h2
   ·simp only[c']at hoi TAm
    rw[TAH i hi]at hoi;rw[TAH i' hi']at TAm;exact hst.H_.inj _ _ _ _ _ _ _ hoi TAm h1 h2 hg hg'
 ·rintro b (h | ⟨sz,h⟩)
  ·exact hst.H_.bound b h
  ·exact hst.H_.TBG ⟨id,_,sz,ho,rfl,h⟩
def Vr (s:AS)(id:Nat):Option AO→AS
 |some (.row ver n f)=>{ s with h:=s.h.set id (.con ver n f) }
 |_=>s
def ki (s:AS):AV→AS
 | .ref id _ _=>Vr s id s.h[id]?
 | .osl id _ _ _ _=>Vr s id s.h[id]?
 |_=>s
def AS.frz (s:AS):List Nat→AS
 | []=>s
 |i :: l=>(ki s (s.get i)).frz l
def FX:List Nat→Nat→List Nat
 | [],_=>[]
 |n :: l,id=>if n/10000000=id+1 then n%10000000 :: FX l id else FX l id
theorem mR (m:Nat)(s:AS)(v:AV):Sub m s (ki s v):=by
 have key:∀id,Sub m s (Vr s id s.h[id]?):=fun id=>by
  cases ho:s.h[id]? with
  |none=>exact Sub.C' m s
  |some o =>
   cases o with
   |row ver n f=>exact XB id ho
   |_=>exact Sub.C' m s
 cases v with
 |ref id ver off=>exact key id
 |osl id ver es off n=>exact key id
 |_=>exact Sub.C' m s
theorem ak (m:Nat):∀ (l:List Nat) (s:AS),Sub m s (s.frz l)
 | [],s=>Sub.C' m s
 |i :: l,s=>(mR m s (s.get i)).trans (ak m l _)
inductive Tag {α:Type}(a:α):Type where
 |mk
def aH (X:Env)(k:List Item)(_:Tag (X,k)) (s:AS):Prop:=Run X k s
def xy (X:Env)(_:Tag X)(s:AS):Prop:=TAC X s
def yP (X:Env)(_:Tag X)(s:AS):Prop:=TBS X s
def aG (X:Env)(k:List Item)(s:AS):Prop:=Run X k s
def sH (X:Env)(M:Md)(o:Oper)(K:AS→Prop)(_:Tag (X,M,o,K)) (f:AV) (args:List AV) (s:AS):Prop :=
 ∃v h',Pr X.P X.tok (M.strict M.i) M.B' f args s.h v h'∧K (({ s with h:=h' }:AS).E' o.dst v)
abbrev Gy (X:Env)(M:Md)(o:Oper)(f:AV)(args:List AV)(K:AS→Prop)(s:AS):Prop:=sH X M o K .mk f args s
def Nf:List (Nat×AV)→Nat→AV→List (Nat×AV)
 | [],_,_=>[]
 | (i,v) :: l,d,u=>if d=i then(i,u) :: l else(i,v) :: Nf l d u
def AS.fix (s:AS)(d:Nat)(v:AV):AS:=if d<s.n0 then { s with sl:=s.sl.set d v } else { s with tm:=Nf s.tm d v }
theorem VF (l:List (Nat×AV)) (d j:Nat) (v:AV) (hv:XJ l d=v):XJ (Nf l d v) j=XJ l j:=by
 induction l with
 |nil=>rfl
 |cons x l ih =>
  obtain⟨i,u⟩:=x;simp only[XJ]at hv;simp only[Nf];by_cases hd:d=i
  ·subst hd
   simp at hv;subst hv;simp[XJ]
  ·simp only[hd,if_false]at hv
   simp only[hd,if_false,XJ]
   split
   ·rfl
   ·exact ih hv
theorem Rc {s:AS}{d:Nat}{v:AV}(hv:s.get d=v):s.eqv (s.fix d v):=by
 unfold AS.fix;by_cases hd:d<s.n0
 ·rw[N_ hd]
  refine⟨rfl,rfl,by simp,rfl,fun i=>?_⟩;unfold AS.get at hv ⊢;simp only[hd,if_true]at hv;by_cases hi:i<s.n0
  ·simp only[hi,if_true]
   rw[Fm];by_cases h:d=i∧i<s.sl.length
   ·rw[N_ h,←h.1,hv]
   ·rw[M_ h]
  ·simp only[hi,if_false]
 ·rw[M_ hd]
  refine⟨rfl,rfl,rfl,rfl,fun i=>?_⟩;unfold AS.get at hv ⊢;simp only[hd,if_false]at hv;by_cases hi:i<s.n0
  ·simp only[hi,if_true]
  ·simp only[hi,if_false]
   exact(VF _ _ _ _ hv).symm
def AL:Op→Option (Operand×List Operand)
 | .call { callee:=.value f,args,.. }=>some (f,args.toList)
 |_=>none
mutual
def vc (X:Env):Nat→List Item→AS→Prop
 |0,k,s=>aG X k s
 |n+1,k,s =>
  match k with
  | .code c :: k =>
   match c with
   | .skip=>vc X n k s
   | .label _=>vc X n k s
   | .seq a b=>vc X n (.code a :: .code b :: k) s
   | .block id b=>vc X n (.code b :: .inBlock id :: k) s
   | .scope b=>vc X n (.code b :: .inScope b :: k) s
   | .cond c a b =>
    match s.ev c with
    | .bool t=>(t=true→vc X n (.code a :: k) s)∧(t=false→vc X n (.code b :: k) s)
    | .TAf=>vc X n (.code a :: k) s∧vc X n (.code b :: k) s
    |_=>False
   | .exit id =>
    match exitTo id k with
    |some k'=>vc X n k' s
    |none=>False
   | .region id ops draw =>
    if draw then DM X.str id=true∧Xy X n ⟨ops,HB X.str id,X.hcs.contains id,some (s.frz (FX X.str id)).h.length,0,(s.frz (FX X.str id)).h.length⟩ ops.toList k (Ez (X.hcs.contains id) ops (s.frz (FX X.str id)))
    else Xy X n ⟨ops,HB X.str id,true,none,0,0⟩ ops.toList k s.clr
   | .ret=>TAC X s
   |c=>aG X (.code c :: k) s
  | .inBlock _ :: k=>vc X n k s
  | .inScope _ :: k=>vc X n k s
  | []=>TBS X s
  |k=>aG X k s
def Xy (X:Env):Nat→Md→List Oper→List Item→AS→Prop
  |0,M,os,k,s=>TBF X M os k s
  |n+1,M,os,k,s =>
    match os with
    | []=>vc X n k s
    |o :: os =>
      match o.guard with
      |none=>Qq X n M o os k s
      |some (j,want) =>
        match (M.all[j]?).bind (·.dst)with
        |some d =>
          match s.get d with
          | .bool b=>(b=true→if want=true then Qq X n M o os k (s.fix d (.bool true))else Xy X n (M.next o) os k ((s.fix d (.bool true)).E' o.dst XW)) ∧
                       (b=false→if want=false then Qq X n M o os k (s.fix d (.bool false))else Xy X n (M.next o) os k ((s.fix d (.bool false)).E' o.dst XW))
          | .tup []=>Xy X n (M.next o) os k (s.E' o.dst XW)
          |_=>False
        |none=>False
def Qq (X:Env):Nat→Md→Oper→List Oper→List Item→AS→Prop
 |0,_,_,_,_,_=>False
 |n+1,M,o,os,k,s =>
  match AL o.op with
  |some (f,args)=>Gy X M o (s.ev f) (args.map s.ev) (fun s'=>Xy X n (M.next o) os k s') s
  |none =>
   match M.base with
   |none=>Q3 (Jb X.P (M.strict M.i) none o.op s.ev s.h) fun r=>Xy X n (M.next o) os k (({ s with h:=r.2 }:AS).E' o.dst r.1)
   |some _ =>
    if QH M.B' o.op=2 then s.h[M.nx]?=some .D_∧Q3 (Jb X.P (M.strict M.i) (some M.nx) o.op s.ev s.h) fun r=>Xy X n (M.next o) os k (({ s with h:=r.2 }:AS).E' o.dst r.1)
    else Q3 (Jb X.P (M.strict M.i) none o.op s.ev s.h) fun r=>Xy X n (M.next o) os k (({ s with h:=r.2 }:AS).E' o.dst r.1)
end
theorem Md.TBa {M:Md}{o:Oper}{os:List Oper}(h:M.ok (o :: os)):M.all[M.i]?=some o:=by
 have h1:=h.1;have:(M.all.toList.drop M.i)[0]?=some o:=by rw[h1];rfl
 rw[ZBi]at this
 simpa using this
theorem W0 {B':Bool}{all:Array Oper}{i:Nat}{o:Oper}(ho:all[i]?=some o):CQ B' all (i+1)=CQ B' all i+if QH B' o.op=2 then 1 else 0:=by
 unfold CQ;have hi:i<all.toList.length:=by simpa using (c_.1 ho).1
 have h1:(all.toList.take (i+1))=all.toList.take i ++ [o]:=by
  rw[ZCV hi];congr 2;have:=(c_.1 ho).2
  simpa using this
 rw[h1,ZD8,f_];by_cases hc:QH B' o.op=2 <;> simp[hc]
theorem Md.TBJ {M:Md}{o:Oper}{os:List Oper}(h:M.ok (o :: os)):(M.next o).ok os:=by
 refine⟨?_,?_⟩
 ·have h1:=h.1
  show M.all.toList.drop (M.i+1)=os;rw[←List.tail_drop,h1];rfl
 ·intro b hb
  have hb':M.base=some b:=hb;have hnx:M.nx=b+CQ M.B' M.all M.i:=h.2 b hb';show(match M.base with |none=>M.nx |some _=>if QH M.B' o.op=2 then M.nx+1 else M.nx)=b+CQ M.B' M.all (M.i+1);rw[hb',W0 (Md.TBa h),hnx];simp only
  split <;> omega
theorem TBF.cons {X:Env}{M:Md}{o:Oper}{os:List Oper}{k:List Item}{s s1:AS}(h1:GStep X.P X.tok M.strict M.B' M.nid M.all M.i s s1)(h2:TBF X (M.next o) os k s1):TBF X M (o :: os) k s:=by
 obtain⟨s',h3,h4⟩:=h2;refine⟨s',?_,h4⟩;show TAb X.P X.tok M.strict M.B' M.nid M.all (ZCX M.i (os.length+1)) s s';rw[List.range'_succ];exact⟨s1,h1,h3⟩
theorem NV {op:Op}{f:Operand}{args:List Operand}(h:AL op=some (f,args)):∃as ts,op=.call { callee:=.value f,args:=as,argTypes:=ts }∧args=as.toList:=by
 unfold AL at h
 split at h
 ·cases h;exact⟨_,_,rfl,rfl⟩
 ·cases h
theorem SU {all:Array Oper}{s:AS}{o:Oper}{j d:Nat}{want b:Bool}(hg:o.guard=some (j,want)) (hd:(all[j]?).bind (·.dst)=some d) (hs:s.get d=.bool b):TAv all s o=some (b == want):=by
 unfold TAv;simp[hg,hd,hs]
theorem no (X:Env):∀n,(∀k s,vc X n k s→Run X k s)∧(∀M os k s,M.ok os→Xy X n M os k s→TBF X M os k s) ∧
  (∀M o os k s,M.ok (o :: os)→TAv M.all s o=some true→Qq X n M o os k s→TBF X M (o :: os) k s)
 |0=>⟨fun k s h=>by simpa [vc,aG]using h,fun M os k s _ h=>by simpa [Xy]using h,fun M o os k s _ _ h=>by simp[Qq]at h⟩
 |n+1=>by
  obtain⟨ih1,ih2,ih3⟩:=no X n;refine⟨?_,?_,?_⟩
  ·intro k s h
   unfold vc at h
   split at h
   ·rename_i c k
    split at h
    ·exact mC (ih1 _ _ h)
    ·exact fu (ih1 _ _ h)
    ·exact ru (ih1 _ _ h)
    ·exact fq (ih1 _ _ h)
    ·exact fx (ih1 _ _ h)
    ·split at h
     ·rename_i t ht
      refine mv ht ?_;cases t
      ·exact ih1 _ _ (h.2 rfl)
      ·exact ih1 _ _ (h.1 rfl)
     ·rename_i ht
      exact ft ht (ih1 _ _ h.1) (ih1 _ _ h.2)
     ·exact h.elim
    ·split at h
     ·rename_i k' hk
      exact mz hk (ih1 _ _ h)
     ·exact h.elim
    ·rename_i id ops draw
     cases draw with
     |true =>
      simp only[if_true]at h;obtain⟨hfl,h⟩:=h;exact(mw hfl (ih2 _ _ _ _ ⟨by simp,fun b hb=>by cases hb;simp[CQ]⟩ h)).sub (ak _ _ _)
     |false =>
      simp only[ZD7,if_false]at h;exact W5 (ih2 _ _ _ _ ⟨by simp,fun b hb=>by cases hb⟩ h)
    ·exact rt h
    ·exact h
   ·exact TO (ih1 _ _ h)
   ·exact TP (ih1 _ _ h)
   ·exact rq h
   ·exact h
  ·intro M os k s hM h
   unfold Xy at h
   split at h
   ·exact⟨s,rfl,ih1 _ _ h⟩
   ·rename_i o os
    split at h
    ·rename_i hg
     exact ih3 _ _ _ _ _ hM (by simp[TAv,hg]) h
    ·rename_i j want hg
     split at h
     ·rename_i d hd
      split at h
      ·rename_i b hs
       have fixed:∀b',b=b'→(s.fix d (.bool b')).get d=.bool b':=fun b' e=>by
        rw[← (Rc (v:=.bool b') (by rw[hs,e])).get d,hs,e]
       have TCk:∀b',b=b'→b'≠want→Xy X n (M.next o) os k ((s.fix d (.bool b')).E' o.dst XW)→TBF X M (o :: os) k s:=by
        intro b' e hne h';refine(TBF.cons ⟨o,Md.TBa hM,.inr ⟨?_,rfl⟩⟩ (ih2 _ _ _ _ (Md.TBJ hM) h')).eqv (Rc (by rw[hs,e]));rw[SU hg hd (fixed b' e)]
        simpa using hne
       have taken:∀b',b=b'→b'=want→Qq X n M o os k (s.fix d (.bool b'))→TBF X M (o :: os) k s:=by
        intro b' e hw h';refine(ih3 _ _ _ _ _ hM ?_ h').eqv (Rc (by rw[hs,e]));rw[SU hg hd (fixed b' e),hw];simp
       cases hb:b with
       |true =>
        have h':=h.1 hb
        split at h'
        ·rename_i hw;exact taken true hb hw.symm h'
        ·rename_i hw;exact TCk true hb (fun e=>hw e.symm) h'
       |false =>
        have h':=h.2 hb
        split at h'
        ·rename_i hw;exact taken false hb hw.symm h'
        ·rename_i hw;exact TCk false hb (fun e=>hw e.symm) h'
      ·rename_i hs
       refine TBF.cons ⟨o,Md.TBa hM,.inr ⟨?_,rfl⟩⟩ (ih2 _ _ _ _ (Md.TBJ hM) h);unfold TAv;simp[hg,hd,hs]
      ·exact h.elim
     ·exact h.elim
  ·intro M o os k s hM hgv h
   unfold Qq at h;have TEb:QH M.B' o.op≠2→M.nid M.i=none:=by
    intro hc;have hg:=Md.TBa hM;unfold Md.nid;cases M.base with
    |none=>rfl
    |some b=>simp[CM,hg,hc]
   have step:∀v h' nid,M.nid M.i=nid→(∀id,nid=some id→s.h[id]?=some .D_)→(Jb X.P (M.strict M.i) nid o.op s.ev s.h=some (v,h')∨HP X.P X.tok (M.strict M.i) M.B' o.op s.ev s.h v h') →
     TBF X (M.next o) os k (({ s with h:=h' }:AS).E' o.dst v)→TBF X M (o :: os) k s:=by
    intro v h' nid TAi hu he hr;exact TBF.cons ⟨o,Md.TBa hM,.inl ⟨hgv,by rw[TAi];exact hu,v,h',by rw[TAi];exact he,rfl⟩⟩ hr
   split at h
   ·rename_i f args hca
    obtain⟨as,ts,hop,rfl⟩:=NV hca;obtain⟨v,h',hc,hk⟩:=h;have TCz:QH M.B' o.op≠2:=by rw[hop];cases M.B' <;> simp[QH]
    exact step v h' none (TEb TCz) (fun id hid=>by cases hid) (.inr ⟨f,as,ts,hop,hc⟩) (ih2 _ _ _ _ (Md.TBJ hM) hk)
   ·split at h
    ·rename_i TCl
     obtain⟨⟨v,h'⟩,ha,hk⟩:=h;exact step v h' none (by simp[Md.nid,TCl]) (fun id hid=>by cases hid) (.inl ha) (ih2 _ _ _ _ (Md.TBJ hM) hk)
    ·rename_i b TCl
     split at h
     ·rename_i hc
      obtain⟨hu,⟨v,h'⟩,ha,hk⟩:=h;have TAi:M.nid M.i=some M.nx:=by
       unfold Md.nid;simp only[TCl];unfold CM;simp only[Md.TBa hM,hc,if_true,hM.2 b TCl]
      exact step v h' (some M.nx) TAi (fun id hid=>by cases hid;exact hu) (.inl ha) (ih2 _ _ _ _ (Md.TBJ hM) hk)
     ·rename_i hc
      obtain⟨⟨v,h'⟩,ha,hk⟩:=h;exact step v h' none (TEb hc) (fun id hid=>by cases hid) (.inl ha) (ih2 _ _ _ _ (Md.TBJ hM) hk)
theorem nu {X:Env}(n:Nat){k:List Item}{s:AS}(h:vc X n k s):Run X k s:=(no X n).1 k s h
end
end Go.Ab
