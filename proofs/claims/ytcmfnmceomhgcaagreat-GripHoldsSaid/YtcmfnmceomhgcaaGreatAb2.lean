/- A layer of abstract values and heaps over the model; what is proved here is that its steps and contracts are sound, for every program. -/
import Derived.Test.YtcmfnmceomhgcaaGreatAb1
set_option linter.unusedSimpArgs false
set_option linter.unusedVariables false
open Array renaming getD→ZAV,all_eq_true_iff_forall_mem→ZCl,getElem_mem→ZCn,any_eq_true→ZCp,mem_of_getElem?→ZDb,toArray_toList→ZDg
open Bool renaming or_eq_true→ZBu,false_eq_true→ZEA
open Go.Call renaming operands→ZCI
open Go.Deferred renaming ofValue→ZCh
open Go.Fence renaming wide→ZB3
open Go.Machine renaming fenced→ZC2
open Go.Op renaming operands→ZBc
open Go.Oper renaming apart_spec→ZCV
open Go.Region renaming binds→ZBZ,wanted→ZEN
open Go.Result renaming andThen_ok→ZAa
open Go.Sem renaming run_bind→ZAv
open List renaming range→ZAO,replicate→ZAP,set_comm→ZA2,set_append_left→ZBN,mem_cons_of_mem→ZBq,range'→ZCc,pairwise_cons→ZCi,filter_cons→ZDD,getElem?_append→ZDr,pairwise_append→ZDu,range_eq_range'→ZDv,filter_append→ZEB
open Option renaming isSome_iff_exists→ZBV,map_none→ZEE
open Option.some renaming injEq→t_
open Prod.mk renaming injEq→ZAE
namespace Go.Ab
open Go Go.RowKit
theorem L_:type_of%@List.getElem?_set_ne:=@List.getElem?_set_ne
theorem W_:type_of%@List.getElem?_set_self:=@List.getElem?_set_self
theorem X_:type_of%@List.length_set:=@List.length_set
theorem n_:type_of%@List.mem_append:=@List.mem_append
theorem ZAh:type_of%@List.map_congr_left:=@List.map_congr_left
theorem ZAx:type_of%@List.getElem?_replicate:=@List.getElem?_replicate
theorem ZCa:type_of%@List.take_succ_eq_append_getElem:=@List.take_succ_eq_append_getElem
theorem ZCb:type_of%@List.take_of_length_le:=@List.take_of_length_le
theorem ZCo:type_of%@Iff.rfl:=@Iff.rfl
theorem ZDH:type_of%@List.mem_range:=@List.mem_range
noncomputable section
def Kept (c:Ctx)(l:Nat)(o:Obj):Prop:=c.w.heap[l]?=some o∧¬c.S l∧¬Ar c l
theorem Kept.lt {c:Ctx}{l:Nat}{o:Obj}(h:Kept c l o):l<c.w.heap.size:=(f_.1 h.1).1
theorem Kept.ext {m:Nat}{c c':Ctx}{l:Nat}{o:Obj}(h:Kept c l o)(hx:TAd m c c'):Kept c' l o:=by
 have hlt:=h.lt;refine⟨(hx.same l hlt h.2.2).trans h.1,fun hs=>?_,fun ho=>?_⟩
 ·rcases hx.TA6 l hs with h1 |h1 |h1
  ·exact h.2.1 h1
  ·omega
  ·exact h.2.2 h1
 ·rcases hx.TAy l ho with h1 |h1
  ·omega
  ·exact h.2.2 h1
structure AS where
 n0:Nat
 hid:List Nat
 sl:List AV
 tm:List (Nat×AV)
 h:List AO
structure Tok where
 l:Nat
 r:Loop
 ce:Ctx
def TAV (c:Ctx)(t:Tok):Prop:=Kept c t.l (.loop t.r)∧Ext t.ce c
theorem TAV.ext {c c':Ctx}{t:Tok}(h:TAV c t)(hx:Ext c c'):TAV c' t:=⟨h.1.ext (hx.toB 0),h.2.trans hx⟩
theorem TAV.TFG {m:Nat}{c c':Ctx}{t:Tok}(h:TAV c t)(hm:t.ce.H.length≤m)(hx:TAd m c c'):TAV c' t:=⟨h.1.ext hx,((h.2.toB m).trans hx).TCI hm⟩
def XM:List (Nat×AV)→Nat→AV
 | [],_=>.any
 | (i,v) :: l,j=>if j=i then v else XM l j
def AS.get (s:AS)(i:Nat):AV:=if i<s.n0 then s.sl.getD i .any else XM s.tm i
def AS.put (s:AS)(i:Nat)(v:AV):AS:=if i<s.n0 then { s with sl:=s.sl.set i v } else { s with tm:=(i,v) :: s.tm }
def AS.E' (s:AS)(d:Option Nat)(v:AV):AS:=match d with |some i=>s.put i v |none=>s
def AS.clr (s:AS):AS:={ s with tm:=s.tm.filter fun p=>s.hid.contains p.1 }
def AS.ev (s:AS):Operand→AV
 | .tmp t=>s.get t
 | .const v=>Ou v
 | .global _=>.any
 | .func f=>.fn f []
structure St (N:Nat)(c:Ctx)(a:Act)(s:AS):Prop where
 size:a.tmps.size=N
 defers:a.defers=[]
 TAQ:∀i,Rep c (a.tmps.getD i undef) (s.get i)
 heap:c.H=s.h
 H_:I' c
theorem St.ev {N:Nat}{c:Ctx}{a:Act}{s:AS}(h:St N c a s)(x:Operand):Rep c (a.eval x) (s.ev x):=by
 cases x with
 |tmp t=>exact h.TAQ t
 |const v=>exact au c v
 |global g=>exact .any _
 |func f=>exact .fn f #[] [] rfl (by simp)
@[simp] theorem TF9 (s:AS)(i:Nat)(v:AV):(s.put i v).h=s.h:=by unfold AS.put;split <;> rfl
@[simp] theorem TA0 (s:AS)(d:Option Nat)(v:AV):(s.E' d v).h=s.h:=by cases d <;> simp[AS.E']
theorem YG (s:AS)(i j:Nat)(v:AV):(s.put i v).get j=v∧j=i∨(s.put i v).get j=.any∨(j≠i∧(s.put i v).get j=s.get j):=by
 unfold AS.put AS.get;by_cases hi:i<s.n0
 ·simp only[hi,if_true]
  by_cases hj:j<s.n0
  ·simp only[hj,if_true,FA]
   by_cases hij:i=j∧j<s.sl.length
   ·rw[N_ hij];exact .inl ⟨rfl,hij.1.symm⟩
   ·rw[M_ hij]
    by_cases he:j=i
    ·subst he
     right;left;have:¬j<s.sl.length:=fun h=>hij ⟨rfl,h⟩
     simp[K',k_ (Nat.le_of_not_lt this)]
    ·exact .inr (.inr ⟨he,by first |rfl |trivial⟩)
  ·simp only[hj,if_false]
   exact .inr (.inr ⟨by omega,by first |rfl |trivial⟩)
 ·simp only[hi,if_false]
  by_cases hj:j<s.n0
  ·simp only[hj,if_true]
   exact .inr (.inr ⟨by omega,by first |rfl |trivial⟩)
  ·simp only[hj,if_false,XM]
   by_cases he:j=i
   ·rw[N_ he];exact .inl ⟨rfl,he⟩
   ·rw[M_ he];exact .inr (.inr ⟨he,by first |rfl |trivial⟩)
theorem St.E' {N:Nat}{c c':Ctx}{a:Act}{s:AS}(h:St N c a s)(hx:Ext c c')(hr:I' c'){d:Option Nat}{x:Value}{v:AV}(hv:Rep c' x v)(hd:∀i,d=some i→i<N) :
  St N c' (a.put d x) (({ s with h:=c'.H }:AS).E' d v):=by
 cases d with
 |none=>exact⟨h.size,h.defers,fun i=>hx.rep h.H_ (h.TAQ i),rfl,hr⟩
 |some i =>
  refine⟨by simp[Act.put,h.size],h.defers,fun j=>?_,by simp[AS.E'],hr⟩;simp only[AS.E',Act.put];have hi:=hd i rfl;rw[OE];rcases YG ({ s with h:=c'.H }:AS) i j v with⟨h1,h2⟩ |h1 | ⟨h1,h2⟩
  ·rw[h1,N_ ⟨h2.symm,by rw[h2,h.size];exact hi⟩];exact hv
  ·rw[h1];exact .any _
  ·rw[h2,M_ (fun e=>h1 e.1.symm)];exact hx.rep h.H_ (h.TAQ j)
theorem ES (p:Nat→Bool):∀ (l:List (Nat×AV)) (j:Nat),XM (l.filter fun x=>p x.1) j=XM l j∨XM (l.filter fun x=>p x.1) j=.any
 | [],_=>.inl rfl
 | (i,v) :: l,j=>by
  simp only[ZDD];by_cases hp:p i=true
  ·simp only[hp,if_true,XM]
   by_cases he:j=i
   ·simp[he]
   ·simp only[he,if_false];exact ES p l j
  ·simp only[hp,XM]
   by_cases he:j=i
   ·right
    subst he;have:∀l:List (Nat×AV),XM (l.filter fun x=>p x.1) j=.any:=by
     intro l
     induction l with
     |nil=>rfl
     |cons x l ih =>
      obtain⟨i',v'⟩:=x;simp only[ZDD];by_cases hp':p i'=true
      ·simp only[hp',if_true,XM]
       have:j≠i':=fun e=>hp (e▸hp')
       simp only[this,if_false];exact ih
      ·simp only[hp'];exact ih
    exact this l
   ·simp only[he,if_false];exact ES p l j
theorem St.clr {N:Nat}{c:Ctx}{a:Act}{s:AS}(h:St N c a s):St N c a s.clr:=by
 refine⟨h.size,h.defers,fun i=>?_,h.heap,h.H_⟩;have h1:=h.TAQ i;unfold AS.get AS.clr at *;by_cases hi:i<s.n0
 ·simpa [hi]using h1
 ·simp only[hi,if_false]at h1 ⊢
  rcases ES (fun i=>s.hid.contains i) s.tm i with e |e
  ·rw[e];exact h1
  ·rw[e];exact .any _
def NT (c:Ctx):Nat→Prop:=fun b=>c.S b∨Ar c b
def A_ (a:AV):Prop:=∀c v,Rep c v a→Rep (.bare c.w c.S) v a
def ZA (H:List AO)(a a':AV):Prop:=∀c v,c.H=H→I' c→Rep c v a→Rep (.bare c.w (NT c)) v a'
def oF (a:AV):Prop:=∀c c' v,Rep c v a→Rep c' v a
theorem A_.TBI {a:AV}(h:A_ a)(H:List AO):ZA H a a:=fun c v _ _ hv =>
 (h c v hv).ext (fun _ hb=>.inl hb) (fun _ _=>rfl) (HLe.refl _)
theorem Jg:A_ .any:=fun _ v _=>.any v
theorem X5 (b:Bool):A_ (.bool b):=fun _ _ h=>by cases h;exact .bool _
theorem Jv (k:IntKind)(n:Int):A_ (.int k n):=fun _ _ h=>by cases h;exact .int _ _
theorem Z2:A_ .nil:=fun _ _ h=>by cases h;exact .nil
theorem Qw {n m:Nat}{f:Nat→AV}{t:Bool}(hf:∀j,j<m→A_ (f j)):A_ (.sl n m f t):=fun c v h=>by
 cases h with
 |sl b base _ _ cap _ _ us hS hc hr hn ht=>exact .sl b base n m cap f t us hS hc (fun j hj=>hf j hj c _ (hr j hj)) hn ht
 |slz a cap _ _ ht=>exact .slz _ _ _ _ ht
theorem XR {m off:Nat}{f:Nat→AV}(hf:∀j,j<m→A_ (f j)):A_ (.ptr m f off):=fun c v h=>by
 cases h with
 |ptr b base _ _ _ us hS hc hr=>exact .ptr b base m off f us hS hc (fun j hj=>hf j hj c _ (hr j hj))
theorem XE {l:List AV}(hl:∀a∈l,A_ a):A_ (.agg l):=fun c v h=>by
 cases h with
 |agg vs _ hs hr=>exact .agg vs l hs fun j hj=>hl _ (by rw[K',V' hj];exact ZAR _) c _ (hr j hj)
theorem Z5 {l:List AV}(hl:∀a∈l,A_ a:=by simp):A_ (.tup l):=fun c v h=>by
 cases h with
 |tup vs _ hs hr=>exact .tup vs l hs fun j hj=>hl _ (by rw[K',V' hj];exact ZAR _) c _ (hr j hj)
theorem Kg {g:FuncId}{l:List AV}(hl:∀a∈l,A_ a):A_ (.fn g l):=fun c v h=>by
 cases h with
 |fn _ vs _ hs hr=>exact .fn g vs l hs fun j hj=>hl _ (by rw[K',V' hj];exact ZAR _) c _ (hr j hj)
theorem Ud {g:FuncId}{a:AV}(ha:A_ a):A_ (.mfn g a):=fun c v h=>by
 cases h with
 |mfn _ v _ hv=>exact .mfn g v a (ha c v hv)
theorem Kw {H:List AO}{id ver es off n m M:Nat}{f g:Nat→AV}(ho:H[id]?=some (.row ver m f)∨H[id]?=some (.con ver m f)) (hle:off+M≤m) (hM:n=0→M=0) (hf:∀j,j<M→ZA H (f (off+j)) (g j)) :
  ZA H (.osl id ver es off n) (.sl n M g false):=by
 rintro c v rfl hr h;have J_:inf c.H id=some ver:=by rcases ho with h |h <;> simp[inf,h,AO.info]
 have hns:¬TAe c.H id ver:=by
  rintro(⟨v',hi,hlt⟩ |hd)
  ·rw[J_]at hi;cases hi;omega
  ·simp[inf,hd,AO.info]at J_
 have hn0:n=0→Rep (.bare c.w (NT c)) v (.sl n M g false):=by
  intro hn;subst hn;rw[hM rfl];cases h with
  |osl _ _ _ _ _ cap b sz hi hg hn TAY hmx=>exact .slz _ _ _ _ (by simp)
  |TAh _ _ _ _ a hi=>exact .slz _ _ _ _ (by simp)
  |TAL _ _ _ _ _ a cap hn hs=>exact absurd hs hns
  |TAG _ _ _ _ a hs=>exact absurd hs hns
 cases h with
 |osl _ _ _ _ _ cap b sz hi hg hn TAY hmx =>
  have key:∀cs el fr,c.w.heap[b]?=some (.cells cs el fr)→m≤cs.size→(∀j,j<m→Rep c (cs.getD j undef) (f j))→NT c b→Rep (.bare c.w (NT c)) (.slice (some ⟨b,off,none⟩) n cap) (.sl n M g false):=by
   intro cs el fr hh hm hrr hS;refine .sl b off n M cap g false (fun j=>cs.getD (off+j) undef) hS (fun j hj=>?_) (fun j hj=>hf j hj c _ rfl hr (hrr _ (by omega))) hn (by simp);have hlt:off+j<cs.size:=by omega
   show c.w.cell? _=_;rw[cell_of_row c.w b _ cs el fr hh];simp[hlt,ZAV]
  rcases ho with ho |ho
  ·rcases hr.row id ver m f ho with⟨h1,_⟩ | ⟨b',sz',cs,el,h1,h2,h3,h4,h5,h6⟩
   ·rw[h1]at hg;cases hg
   ·rw[h1]at hg;cases hg
    exact key cs el _ h2 (by omega) h6 (.inr ⟨id,_,sz,ho,rfl,h1⟩)
  ·rcases hr.con id ver m f ho with⟨h1,_⟩ | ⟨b',sz',cs,el,fr,h1,h2,h3,h4,h5,h6⟩
   ·rw[h1]at hg;cases hg
   ·rw[h1]at hg;cases hg
    exact key cs el _ h2 (by omega) h6 (.inl h5)
 |TAh _ _ _ _ a hi=>exact hn0 rfl
 |TAL _ _ _ _ _ a cap hn hs=>exact absurd hs hns
 |TAG _ _ _ _ a hs=>exact absurd hs hns
theorem mV {H:List AO}{id ver off m:Nat}{f g:Nat→AV}(ho:H[id]?=some (.row ver m f)∨H[id]?=some (.con ver m f)) (hm:0<m) (hf:∀j,j<m→ZA H (f j) (g j)) :
  ZA H (.ref id ver off) (.ptr m g off):=by
 rintro c v rfl hr h;have J_:inf c.H id=some ver:=by rcases ho with h |h <;> simp[inf,h,AO.info]
 have hns:¬TAe c.H id ver:=by
  rintro(⟨v',hi,hlt⟩ |hd)
  ·rw[J_]at hi;cases hi;omega
  ·simp[inf,hd,AO.info]at J_
 cases h with
 |ref _ _ _ b sz hi hg =>
  have key:∀cs el fr,c.w.heap[b]?=some (.cells cs el fr)→m≤cs.size→(∀j,j<m→Rep c (cs.getD j undef) (f j))→NT c b→Rep (.bare c.w (NT c)) (.pointer (some ⟨b,off,none⟩)) (.ptr m g off):=by
   intro cs el fr hh hmm hrr hS;have:=Rep.ptr (c:=.bare c.w (NT c)) b 0 m off g (fun j=>cs.getD j undef) hS (fun j hj=>ZU hh hmm j hj) (fun j hj=>hf j hj c _ rfl hr (hrr _ hj));rwa[z_]at this
  rcases ho with ho |ho
  ·rcases hr.row id ver m f ho with⟨h1,h2⟩ | ⟨b',sz',cs,el,h1,h2,h3,h4,h5,h6⟩
   ·omega
   ·rw[h1]at hg;cases hg
    exact key cs el _ h2 (by omega) h6 (.inr ⟨id,_,sz,ho,rfl,h1⟩)
  ·rcases hr.con id ver m f ho with⟨h1,h2⟩ | ⟨b',sz',cs,el,fr,h1,h2,h3,h4,h5,h6⟩
   ·omega
   ·rw[h1]at hg;cases hg
    exact key cs el _ h2 (by omega) h6 (.inl h5)
 |TAR _ _ _ a hs=>exact absurd hs hns
def TBR (H:List AO):List AV→List AV→Prop
 | [],[]=>True
 |a :: l,a' :: l'=>ZA H a a'∧TBR H l l'
 |_,_=>False
theorem TBR.spec {H:List AO}:∀ {l l':List AV},TBR H l l'→l.length=l'.length∧∀j,j<l.length→ZA H (l.getD j .any) (l'.getD j .any)
 | [],[],_=>⟨rfl,by simp⟩
 |a :: l,a' :: l',h=>by
  obtain⟨h1,h2⟩:=h;obtain⟨h3,h4⟩:=TBR.spec h2;refine⟨by simp[h3],fun j hj=>?_⟩;cases j with
  |zero=>simpa using h1
  |succ j=>simpa using h4 j (by simpa using hj)
theorem Dz {H:List AO}{l l':List AV}(h:TBR H l l'):ZA H (.agg l) (.agg l'):=by
 rintro c v rfl hr hv;obtain⟨h1,h2⟩:=h.spec;cases hv with
 |agg vs _ hs hrr=>exact .agg vs l' (by omega) fun j hj=>h2 j (by omega) c _ rfl hr (hrr j (by omega))
theorem DA {H:List AO}{l l':List AV}(h:TBR H l l'):ZA H (.tup l) (.tup l'):=by
 rintro c v rfl hr hv;obtain⟨h1,h2⟩:=h.spec;cases hv with
 |tup vs _ hs hrr=>exact .tup vs l' (by omega) fun j hj=>h2 j (by omega) c _ rfl hr (hrr j (by omega))
theorem rP {H:List AO}{g:FuncId}{l l':List AV}(h:TBR H l l'):ZA H (.fn g l) (.fn g l'):=by
 rintro c v rfl hr hv;obtain⟨h1,h2⟩:=h.spec;cases hv with
 |fn _ vs _ hs hrr=>exact .fn g vs l' (by omega) fun j hj=>h2 j (by omega) c _ rfl hr (hrr j (by omega))
theorem dK (b:Bool):oF (.bool b):=fun _ _ _ h=>by cases h;exact .bool _
theorem kp (k:IntKind)(n:Int):oF (.int k n):=fun _ _ _ h=>by cases h;exact .int _ _
variable {tok:List Tok}
def Cs (P:Program)(f:FuncId):Prop:=∀vs w,(callFunc f vs).run P w=.ok (.enter f vs) w
def TA4 (P:Program)(f:FuncId)(args:List AV)(r:AV):Prop :=
 Cs P f∧∀ (w:World) (S:Nat→Prop) (vs:Array Value),(∀b,S b→b<w.heap.size)→TAH (.bare w S) vs args →
  Calls P f vs w fun e w'=>∃v S',e=.returned v∧Rep (.bare w' S') v r∧(∀b,S' b→b<w'.heap.size)∧Ext (.bare w S) (.bare w' S')
def G' (P:Program)(f:FuncId)(args:List AV)(H:List AO)(r:AV)(H':List AO):Prop :=
 Cs P f∧∀ (c:Ctx) (vs:Array Value),c.H=H→I' c→TAH c vs args →
  Calls P f vs c.w fun e w'=>∃v S' γ',e=.returned v∧Rep ⟨w',S',γ',H'⟩ v r∧I' ⟨w',S',γ',H'⟩∧Ext c ⟨w',S',γ',H'⟩
def gY (h h2:List AO):Prop:=∀id:Nat,h[id]?≠some .D_→h2[id]?=h[id]?
def K5 (h h':List AO):Prop:=∀ (id v n:Nat) (f:Nat→AV),h[id]?=some (.con v n f)↔h'[id]?=some (.con v n f)
def B' (a b:AV):Prop:=∀ (c:Ctx) (v:Value),Rep c v a→Rep c v b
def TAF:List AV→List AV→Prop
 | [],[]=>True
 |a :: l,b :: m=>B' a b∧TAF l m
 |_,_=>False
theorem B'.B_ (a:AV):B' a a:=fun _ _ h=>h
theorem WP (a:AV):B' a a.loose:=fun _ _ h=>h.loose
theorem Lm:∀l:List AV,TAF l (l.map AV.loose)
 | []=>trivial
 |a :: l=>⟨WP a,Lm l⟩
theorem X1:∀l:List AV,TAF l l
 | []=>trivial
 |a :: l=>⟨B'.B_ a,X1 l⟩
theorem TAF.spec {c:Ctx}:∀ {l m:List AV},TAF l m→l.length=m.length∧∀j,j<l.length→∀v,Rep c v (l.getD j .any)→Rep c v (m.getD j .any)
 | [],[],_=>⟨rfl,fun j hj=>absurd hj (ZAL j)⟩
 |a :: l,b :: m,h=>by
  obtain⟨h1,h2⟩:=TAF.spec (c:=c) h.2;refine⟨by simp[h1],fun j hj v hv=>?_⟩;cases j with
  |zero=>exact h.1 c v (by simpa using hv)
  |succ j=>simpa using h2 j (by simpa using hj) v (by simpa using hv)
 | [],_ :: _,h=>h.elim
 |_ :: _,[],h=>h.elim
theorem TAH.TDL {c:Ctx}{vs:Array Value}{l m:List AV}(h:TAH c vs l)(hw:TAF l m):TAH c vs m :=
 ⟨h.1.trans (hw.spec (c:=c)).1,fun j hj=>(hw.spec (c:=c)).2 j (by rw[(hw.spec (c:=c)).1];exact hj) _ (h.2 j (by rw[(hw.spec (c:=c)).1];exact hj))⟩
def TBf (P:Program)(t:Tok)(args:List AV)(H:List AO)(v:AV)(H':List AO):Prop :=
 ∀ (c:Ctx) (vs:Array Value),c.H=H→I' c→TAV c t→TAH c vs args→∃f tmps assign body,(Instr.yield t.l vs).run P c.w=.ok (.round t.l f tmps assign body) c.w ∧
  RoundIn ZB3 0 P t.l f tmps assign body c.w fun e w'=>∃x S' γ',e=.returned x∧Rep ⟨w',S',γ',H'⟩ x v∧I' ⟨w',S',γ',H'⟩∧Ext c ⟨w',S',γ',H'⟩
def AV.callee:AV→List AV→Option ((FuncId ⊕ Nat)×List AV)
 | .fn g G_,args=>some (.inl g,args ++ G_)
 | .mfn g a,args=>some (.inl g,a :: args)
 | .yld l,args=>some (.inr l,args)
 |_,_=>none
def tu (P:Program):FuncId ⊕ Nat→List AV→AV→Prop
 | .inl g,args,r=>TA4 P g args r
 | .inr _,_,_=>False
def uL (P:Program)(tok:List Tok):FuncId ⊕ Nat→List AV→List AO→AV→List AO→Prop
 | .inl g,args,H,v,H'=>G' P g args H v H'
 | .inr l,args,H,v,H'=>∃t,t∈tok∧t.l=l∧TBf P t args H v H'
def Pz (P:Program)(tok:List Tok)(strict C':Bool)(fv:AV)(args:List AV)(h:List AO)(v:AV)(h':List AO):Prop :=
  ∃g full,fv.callee args=some (g,full) ∧
    ((∃as',TAF full as'∧tu P g as' v∧(∀a∈as',A_ a)∧h'=h) ∨
     (strict=false∧∃TB3,TBR h (full.map AV.loose) TB3∧tu P g TB3 v∧oF v∧h'=h) ∨
     (C'=true∧∃as',TAF full as'∧∃E:List AO→List AO,(∀h2,gY h h2→uL P tok g as' h2 v (E h2))∧E h=h'∧K5 h h' ∧
       (∀ (h2:List AO) (id:Nat) (ob:AO),gY h h2→h[id]?=some .D_→E (h2.set id ob)=(E h2).set id ob)∧∀id:Nat,h[id]?=some .D_→h'[id]?=some .D_))
theorem F8 {c:Ctx}{vs us:Array Value}{l m:List AV}(h1:TAH c vs l)(h2:TAH c us m):TAH c (vs ++ us) (l ++ m):=by
 refine⟨by simp[h1.1,h2.1],fun j hj=>?_⟩;simp only[s_,K'];by_cases hjl:j<l.length
 ·rw[Array.getElem?_append_left (by rw[h1.1];exact hjl),T_ hjl]
  have:=h1.2 j hjl
  simpa [s_,K']using this
 ·rw[Array.getElem?_append_right (by rw[h1.1];omega),g_ (by omega),h1.1]
  have:=h2.2 (j-l.length) (by simp at hj;omega)
  simpa [s_,K']using this
theorem ME {c:Ctx}(hr:I' c){w':World}{S S':Nat→Prop}(hx:Ext (.bare c.w S) (.bare w' S')) (hb:∀b,S' b→b<w'.heap.size) (T:Nat→Prop)
  (hT:∀b,T b→S' b) (hT2:∀b,c.S b→T b) (hT3:∀b,T b→c.S b∨c.w.heap.size≤b):I' ⟨w',T,c.γ,c.H⟩∧Ext c ⟨w',T,c.γ,c.H⟩:=by
 have TAm:∀b,b<c.w.heap.size→w'.heap[b]?=c.w.heap[b]?:=fun b hb=>hx.same b hb Dt
 have J':Ext c ⟨w',T,c.γ,c.H⟩:=⟨HLe.refl c,hT2,fun b h=>(hT3 b h).imp id .inl,fun b h=>.inr h,fun b hb _=>TAm b hb,hx.size,hx.os,hx.tape,hx.output⟩
 refine⟨⟨?_,?_,?_,hr.inj,fun b h=>hb b (hT b h)⟩,J'⟩
 ·intro id v n f ho
  rcases hr.row id v n f ho with h | ⟨b,sz,cs,el,h1,h2,h3,h4,h5,h6⟩
  ·exact .inl h
  ·have hlt:=(f_.1 h2).1
   exact .inr ⟨b,sz,cs,el,h1,(TAm b hlt).trans h2,h3,h4,fun ht=>by rcases hT3 b ht with h |h;exact h5 h;omega,fun j hj=>J'.rep hr (h6 j hj)⟩
 ·intro id v n f ho
  rcases hr.con id v n f ho with h | ⟨b,sz,cs,el,fr,h1,h2,h3,h4,h5,h6⟩
  ·exact .inl h
  ·have hlt:=(f_.1 h2).1
   exact .inr ⟨b,sz,cs,el,fr,h1,(TAm b hlt).trans h2,h3,h4,hT2 b h5,fun j hj=>J'.rep hr (h6 j hj)⟩
 ·intro id k g ho
  obtain⟨b,sz,es,cl,h1,h2,h3,h4⟩:=hr.map id k g ho;have hlt:=(f_.1 h2).1;exact⟨b,sz,es,cl,h1,(TAm b hlt).trans h2,fun ht=>by rcases hT3 b ht with h |h;exact h3 h;omega,h4.ext fun v a hv=>J'.rep hr hv⟩
theorem L6 {w:World}{S:Nat→Prop}{v:Value}{a:AV}(h:Rep (.bare w S) v a) (γ:Nat→Option (Nat×Nat)) (H:List AO):Rep ⟨w,S,γ,H⟩ v a :=
 h.ext (fun _ h=>h) (fun _ _=>rfl) (fun id o ho=>by simp[Ctx.bare]at ho)
def gG (P:Program)(c:Ctx)(run:Result Next)(v:AV)(h':List AO):Prop :=
 (∃g vs,run=.ok (.enter g vs) c.w∧Calls P g vs c.w fun e w'=>∃x S' γ',e=.returned x∧Rep ⟨w',S',γ',h'⟩ x v∧I' ⟨w',S',γ',h'⟩∧Ext c ⟨w',S',γ',h'⟩) ∨
 (∃l f tmps assign body,run=.ok (.round l f tmps assign body) c.w∧RoundIn ZB3 0 P l f tmps assign body c.w fun e w'=>∃x S' γ',e=.returned x∧Rep ⟨w',S',γ',h'⟩ x v∧I' ⟨w',S',γ',h'⟩∧Ext c ⟨w',S',γ',h'⟩)
theorem NX {P:Program}{c:Ctx}(hr:I' c)(TAk:∀ p∈tok,TAV c p){strict C':Bool}{fv:AV}{x:Value}{args:Array Value}{as:List AV}(hf:Rep c x fv)(ha:TAH c args as){v:AV}{h':List AO}
  (h:Pz P tok strict C' fv as c.H v h') (ty:TypeId) {o:Operand} {ρ:Operand→Value} (ho:ρ o=x) (os:Array Operand) (hos:os.map ρ=args) (ts:Array TypeId) :
  gG P c ((do let d ←resolve ρ { callee:=.value o,args:=os,argTypes:=ts } ty;invoke d.target d.args:Sem Next).run P c.w) v h':=by
 obtain⟨g,full,TCt,h⟩:=h;have key:∀ (g0:FuncId) (vs:Array Value),g=.inl g0→TAH c vs full→(∀ (he:Cs P g0),(do let d ←resolve ρ { callee:=.value o,args:=os,argTypes:=ts } ty;invoke d.target d.args:Sem Next).run P c.w=.ok (.enter g0 vs) c.w) →
   gG P c ((do let d ←resolve ρ { callee:=.value o,args:=os,argTypes:=ts } ty;invoke d.target d.args:Sem Next).run P c.w) v h':=by
  rintro g0 vs rfl TCL I_;left;have TBL:TAH c vs (full.map AV.loose):=TCL.loose;rcases h with⟨as',TCM,⟨he,hc⟩,hs,rfl⟩ | ⟨_,as',TFH,⟨he,hc⟩,TEW,rfl⟩ | ⟨_,as',TCM,E,hE,rfl,_⟩
  ·have TBL:=TCL.TDL TCM
   refine⟨g0,_,I_ he,(hc c.w c.S vs hr.bound ⟨TBL.1,fun j hj=>hs _ (by rw[K',V' hj];exact ZAR _) c _ (TBL.2 j hj)⟩).mono ?_⟩;rintro e w' ⟨x,S',rfl,hx,hb,J'⟩;obtain⟨g1,g2⟩:=ME hr J' hb S' (fun _ h=>h) J'.TAf (fun b h=>by
    rcases J'.TA6 b h with h |h |h
    ·exact .inl h
    ·exact .inr h
    ·exact absurd h Dt)
   exact⟨x,S',c.γ,rfl,L6 hx _ _,g1,g2⟩
  ·obtain⟨hlen,hsp⟩:=TFH.spec
   have hb0:∀b,NT c b→b<c.w.heap.size:=fun b h=>h.elim (hr.bound b) hr.TBH
   refine⟨g0,_,I_ he,(hc c.w (NT c) vs hb0 ⟨by rw[TBL.1,hlen],fun j hj=>hsp j (by omega) c _ rfl hr (TBL.2 j (by omega))⟩).mono ?_⟩;rintro e w' ⟨x,S',rfl,hx,hb,J'⟩;obtain⟨g1,g2⟩:=ME hr J' hb c.S (fun b h=>J'.TAf b (.inl h)) (fun _ h=>h) (fun b h=>.inl h);exact⟨x,c.S,c.γ,rfl,TEW _ _ _ hx,g1,g2⟩
  ·have TBL:=TCL.TDL TCM
   obtain⟨he,hc⟩:=hE c.H (fun _ _=>rfl);refine⟨g0,_,I_ he,(hc c vs rfl hr TBL).mono ?_⟩;rintro e w' ⟨x,S',γ',rfl,h1,h2,h3⟩;exact⟨x,S',γ',rfl,h1,h2,h3⟩
 unfold AV.callee at TCt
 split at TCt
 ·rename_i g0 G_
  cases TCt;cases hf;rename_i vs hl hrr;exact key g0 (args ++ vs) rfl (F8 ha ⟨hl,hrr⟩) fun he=>by simp[resolve,ZCh,ho,hos,invoke,he (args ++ vs) c.w]
 ·rename_i g0 a
  cases TCt;cases hf;rename_i v0 hv0;have h1:TAH c #[v0] [a]:=⟨rfl,fun j hj=>by
   obtain rfl:j=0:=by simpa using hj
   exact hv0⟩
  exact key g0 (#[v0] ++ args) rfl (F8 h1 ha) fun he=>by simp[resolve,ZCh,ho,hos,invoke,he (#[v0] ++ args) c.w]
 ·rename_i l
  cases TCt;cases hf;rcases h with⟨as',_,hp,_⟩ | ⟨_,as',_,hp,_⟩ | ⟨_,as',TCM,E,hE,rfl,_⟩
  ·exact hp.elim
  ·exact hp.elim
  ·right
   obtain⟨t,TAW,rfl,hy⟩:=hE c.H (fun _ _=>rfl);obtain⟨f,tmps,assign,body,h1,h2⟩:=hy c args rfl hr (TAk _ TAW) (ha.TDL TCM);refine⟨t.l,f,tmps,assign,body,?_,h2⟩;simp[resolve,ZCh,ho,hos,invoke,h1]
 ·cases TCt
def TAw (all:Array Oper)(s:AS)(o:Oper):Option Bool :=
 match o.guard with
 |none=>some true
 |some (j,want) =>
  match (all[j]?).bind (·.dst)with
  |some d=>match s.get d with
   | .bool b=>some (b == want)
   | .tup []=>some false
   |_=>none
  |none=>none
def I0 (P:Program)(tok:List Tok)(strict C':Bool)(op:Op)(ρ:Operand→AV)(h:List AO)(v:AV)(h':List AO):Prop :=
 ∃f args ts,op=.call { callee:=.value f,args:=args,argTypes:=ts }∧Pz P tok strict C' (ρ f) (args.toList.map ρ) h v h'
def uN (P:Program)(tok:List Tok)(strict C':Bool)(nid:Option Nat)(o:Oper)(s s1:AS):Prop :=
 (∀id,nid=some id→s.h[id]?=some .D_)∧∃v h',(Jk P strict nid o.op s.ev s.h=some (v,h')∨I0 P tok strict C' o.op s.ev s.h v h')∧s1=({ s with h:=h' }:AS).E' o.dst v
def GStep (P:Program)(tok:List Tok)(strict:Nat→Bool)(C':Bool)(nid:Nat→Option Nat)(all:Array Oper)(i:Nat)(s s1:AS):Prop :=
 ∃o,all[i]?=some o∧((TAw all s o=some true∧uN P tok (strict i) C' (nid i) o s s1)∨(TAw all s o=some false∧s1=s.E' o.dst XZ))
theorem GD {all:Array Oper}{N:Nat}{c:Ctx}{a:Act}{s:AS}(hst:St N c a s){o:Oper}{b:Bool}(hN:∀ o∈all.toList,∀ i,o.dst=some i→i<N)(h:TAw all s o=some b) :
  ZEN o (yielded all a.tmps)=b:=by
 unfold TAw at h;unfold ZEN;cases hg:o.guard with
 |none=>simp[hg]at h;simp[h]
 |some q =>
  obtain⟨j,want⟩:=q;simp only[hg]at h;cases hd:(all[j]?).bind (·.dst)with
  |none=>simp[hd]at h
  |some d =>
   simp only[hd]at h;have hdN:d<N:=by
    cases hoj:all[j]? with
    |none=>simp[hoj]at hd
    |some oj =>
     simp[hoj]at hd;exact hN oj (by simpa using ZDb hoj) d hd
   have TB4:=hst.TAQ d;have TAN:a.tmps[d]?=some (a.tmps.getD d undef):=by
    have:d<a.tmps.size:=by rw[hst.size];exact hdN
    simp[ZAV,this]
   cases hv:s.get d with
   |bool b' =>
    rw[hv]at TB4 h;simp at h;generalize a.tmps.getD d undef=q at TB4 TAN;cases TB4;simp[yielded,hd,TAN,←h]
   |tup l =>
    rw[hv]at TB4 h;cases l with
    |nil =>
     simp at h;generalize a.tmps.getD d undef=q at TB4 TAN;cases TB4;simp[yielded,hd,TAN,←h]
    |cons _ _=>simp at h
   |_=>rw[hv]at h;simp at h
def Ac (r:Option Nat):Fence:={ ZB3 with round:=r }
theorem O1 (r:Option Nat)(P:Program):ZC2 P (Ac r)=ZC2 P ZB3:=rfl
theorem Fi {r:Option Nat}{P:Program}{m m':Machine}:StepsIn (ZC2 P (Ac r)) P m m'↔Steps P m m':=by rw[O1];exact stepsIn_wide
theorem La (r:Option Nat)(n:Nat):(Ac r).room n:=room_wide n
theorem Mo {r:Option Nat}{n:Nat}{P:Program}{f:FuncId}{args:Array Value}{w:World}{R:Ending→World→Prop}(h:Calls P f args w R):CallsIn (Ac r) n P f args w R :=
 (callsIn_wide (n:=n)).2 h
theorem CE (a:Act)(ds:List Deferred)(d:Option Nat)(v:Value):({ a with defers:=ds }:Act).put d v={ a.put d v with defers:=ds }:=by cases d <;> rfl
theorem GStep.sound {P:Program}{strict:Nat→Bool}{C':Bool}{nid:Nat→Option Nat}{all:Array Oper}{i:Nat}{s s1:AS}{N:Nat}{c:Ctx}{a:Act}{ro:Option Nat}{ds:List Deferred}(hst:St N c a s)(TAk:∀p∈tok,TAV c p)
  (hN:∀o∈all.toList,∀i,o.dst=some i→i<N) (h:GStep P tok strict C' nid all i s s1) {K:Act→World→Prop} {Q:Exit→Act→World→Prop}
  (hK:∀a' c',St N c' a' s1→Ext c c'→K { a' with defers:=ds } c'.w):wpOpIn (Ac ro) 0 P all Q i K { a with defers:=ds } c.w:=by
 obtain⟨o,ho,h⟩:=h;have hdN:∀i,o.dst=some i→i<N:=hN o (by simpa using ZDb ho);unfold wpOpIn;simp only[ho];have TAm:({ s with h:=c.H }:AS)=s:=by rw[hst.heap]
 rcases h with⟨hg,TAj,v,h',h,rfl⟩ | ⟨hg,rfl⟩
 ·rw[GD hst hN hg]
  simp only[if_true];unfold Oper.wpIn;refine⟨fun _ _=>trivial,?_⟩;rcases h with h | ⟨f,args,ts,hop,h⟩
  ·rw[Oper.semAt_eq _ _ _ (fun q e=>by rw[e]at h;simp[Jk]at h)]
   rw[←hst.heap]at h;obtain⟨x,w',S',γ',I_,h1,h2,h3⟩:=cH hst.H_ (by rw[hst.heap];exact TAj) (fun x=>hst.ev x) (fun _=>rfl) h;have fin:=hst.E' h3 h2 (d:=o.dst) h1 hdN;rcases I_ with I_ | ⟨I_,rfl⟩
   ·rw[show(execOp ({ a with defers:=ds }:Act).eval o).run P c.w=_ from I_,Oper.uponIn_value,CE];exact hK _ ⟨w',S',γ',h'⟩ fin h3
   ·rw[show(execOp ({ a with defers:=ds }:Act).eval o).run P c.w=_ from I_,Oper.uponIn_skip,CE];exact hK _ ⟨w',S',γ',h'⟩ fin h3
  ·rw[Oper.semAt_eq _ _ _ (fun q e=>by rw[hop]at e;cases e)]
   rw[←hst.heap]at h;have hrl:=Hc (c:=c) (ρv:=a.eval) (ρ:=s.ev) (fun x=>hst.ev x) args;have hex:∀nx,((do let d ←resolve a.eval { callee:=.value f,args:=args,argTypes:=ts } o.type;invoke d.target d.args:Sem Next).run P c.w)=.ok nx c.w→(execOp ({ a with defers:=ds }:Act).eval o).run P c.w=.ok nx c.w:=fun nx I_=>by
    rw[←I_];unfold execOp;rw[hop];rfl
   have fin:∀w' x S' γ',Rep ⟨w',S',γ',h'⟩ x v→I' ⟨w',S',γ',h'⟩→Ext c ⟨w',S',γ',h'⟩→K (({ a with defers:=ds }:Act).put o.dst x) w':=fun w' x S' γ' h1 h2 h3=>by
    have:=hK _ ⟨w',S',γ',h'⟩ (hst.E' h3 h2 (d:=o.dst) h1 hdN) h3;rw[←CE]at this;exact this
   rcases NX hst.H_ TAk (hst.ev f) hrl h o.type (o:=f) (ρ:=a.eval) rfl args rfl ts with⟨g,vs,I_,TDw⟩ | ⟨l,g,tmps,assign,body,I_,TDx⟩
   ·rw[hex _ I_,Oper.uponIn_enter]
    refine⟨fun e=>by simp[Ac,ZB3]at e,Mo (TDw.mono ?_)⟩;rintro e w' ⟨x,S',γ',rfl,h1,h2,h3⟩;exact fin _ _ _ _ h1 h2 h3
   ·rw[hex _ I_,Oper.uponIn_round]
    refine⟨fun e=>by simp[Ac,ZB3]at e,RoundIn.mono (F:=Ac ro) (R:=fun e w'=>∃x S' γ',e=.returned x∧Rep ⟨w',S',γ',h'⟩ x v∧I' ⟨w',S',γ',h'⟩∧Ext c ⟨w',S',γ',h'⟩) TDx ?_⟩;rintro e w' ⟨x,S',γ',rfl,h1,h2,h3⟩;exact fin _ _ _ _ h1 h2 h3
 ·rw[GD hst hN hg]
  simp only[ZEA,if_false];have:=hst.E' (Ext.refl c) hst.H_ (d:=o.dst) (Pd c) hdN;rw[TAm]at this;have:=hK _ c this (Ext.refl c);rw[←CE]at this;exact⟨fun _ _=>trivial,this⟩
def TAc (P:Program)(tok:List Tok)(strict:Nat→Bool)(C':Bool)(nid:Nat→Option Nat)(all:Array Oper):List Nat→AS→AS→Prop
 | [],s,s'=>s'=s
 |i :: l,s,s'=>∃s1,GStep P tok strict C' nid all i s s1∧TAc P tok strict C' nid all l s1 s'
theorem TAc.sound {P:Program}{strict:Nat→Bool}{C':Bool}{nid:Nat→Option Nat}{all:Array Oper}{N:Nat}{ro:Option Nat}{ds:List Deferred}(hN:∀ o∈all.toList,∀ i,o.dst=some i→i<N){Q:Exit→Act→World→Prop}:∀ (l:List Nat) {s s':AS} {c:Ctx} {a:Act},St N c a s→(∀p∈tok,TAV c p) →
  TAc P tok strict C' nid all l s s'→(∀a' c',St N c' a' s'→Ext c c'→Q .normal { a' with defers:=ds } c'.w)→wpOpsIn (Ac ro) 0 P all Q l { a with defers:=ds } c.w
 | [],s,s',c,a,hst,TAk,h,hQ=>by
  cases h;exact hQ a c hst (Ext.refl c)
 |i :: l,s,s',c,a,hst,TAk,h,hQ=>by
  obtain⟨s1,h1,h2⟩:=h;rw[wpOpsIn_cons];refine h1.sound hst TAk hN fun a' c' TAu hx=>?_
  exact TAc.sound hN l TAu (fun p hp=>(TAk p hp).ext hx) h2 fun a'' c'' TCN hx'=>hQ a'' c'' TCN (hx.trans hx')
variable {tok:List Tok}
def QJ (C':Bool):Op→Nat
 | .move _=>0
 | .assign _=>0
 | .pick ..=>0
 | .nilCheck _=>0
 | .binOp ..=>0
 | .unOp ..=>0
 | .convert ..=>0
 | .fieldAddr ..=>0
 | .field ..=>0
 | .indexAddr ..=>0
 | .sliceToArrayPointer ..=>0
 | .index ..=>0
 | .extract ..=>0
 | .slice ..=>0
 | .makeFunc ..=>0
 | .build ..=>0
 | .buildSlice ..=>0
 | .call { callee:=.builtin .len,.. }=>0
 | .call { callee:=.builtin .min,.. }=>0
 | .call { callee:=.builtin .max,.. }=>0
 | .call { callee:=.builtin .cap,.. }=>0
 | .load ..=>1
 | .call { callee:=.value _,.. }=>if C' then 3 else 1
 | .alloc _=>2
 | .box ..=>2
 | .makeSlice ..=>2
 | .makeMap ..=>2
 |_=>3
def Cx:Op→Bool
 | .load ..=>true
 |_=>false
def QF (P:Program)(tok:List Tok)(strict C':Bool)(nid:Option Nat)(op:Op)(ρ:Operand→AV)(h:List AO)(v:AV)(h':List AO):Prop :=
 Jk P strict nid op ρ h=some (v,h')∨I0 P tok strict C' op ρ h v h'
theorem Jp {P:Program}{strict C':Bool}{op:Op}{ρ:Operand→AV}{h h':List AO}{v:AV}(hc:I0 P tok strict C' op ρ h v h'):∃f args ts,op=.call { callee:=.value f,args:=args,argTypes:=ts } :=
 let ⟨f,args,ts,e,_⟩:=hc; ⟨f,args,ts,e⟩
def Iq:Op→Bool
 | .buildSlice ..=>true
 |_=>false
theorem jM {P:Program}{strict C':Bool}{nid:Option Nat}{op:Op}{ρ:Operand→AV}{h h':List AO}{v:AV}(hc:QJ C' op=0)(hb:strict=true→Iq op=false)(he:QF P tok strict C' nid op ρ h v h') :
  h'=h∧∀k,QF P tok strict C' nid op ρ k v k:=by
 rcases he with he |he
 ·have TBM:∀ {o:Option AV},(o.map fun v=>(v,h))=some (v,h')→h'=h∧∀k:List AO,(o.map fun v=>(v,k))=some (v,k):=by
   intro o ho;cases o with
   |none=>simp at ho
   |some x=>simp at ho;obtain⟨rfl,rfl⟩:=ho;exact⟨rfl,fun k=>rfl⟩
  unfold Jk at he
  split at he
  case h_1 x=>cases he;exact⟨rfl,fun k=>.inl rfl⟩
  case h_2 x=>cases he;exact⟨rfl,fun k=>.inl rfl⟩
  case h_3 cc a b =>
   split at he
   ·cases he;rename_i e;exact⟨rfl,fun k=>.inl (by simp[Jk,e])⟩
   ·cases he;rename_i e;exact⟨rfl,fun k=>.inl (by simp[Jk,e])⟩
   ·cases he
  case h_4=>simp[QJ]at hc
  case h_5=>simp[QJ]at hc
  case h_6=>obtain⟨h1,h2⟩:=TBM he;exact⟨h1,fun k=>.inl (h2 k)⟩
  case h_7 =>
   cases strict with
   |true=>have:=hb rfl;simp[Iq]at this
   |false =>
    obtain⟨h1,h2⟩:=TBM he;exact⟨h1,fun k=>.inl (h2 k)⟩
  case h_8=>simp[QJ]at hc
  case h_9=>simp[QJ]at hc
  case h_10 x =>
   obtain⟨h1,h2⟩:=Xg he;cases h2;exact⟨rfl,fun k=>.inl (by simp[Jk,Qf,h1])⟩
  case h_11=>obtain⟨h1,h2⟩:=TBM he;exact⟨h1,fun k=>.inl (h2 k)⟩
  case h_12=>obtain⟨h1,h2⟩:=TBM he;exact⟨h1,fun k=>.inl (h2 k)⟩
  case h_13=>obtain⟨h1,h2⟩:=TBM he;exact⟨h1,fun k=>.inl (h2 k)⟩
  case h_14 f first G_=>obtain⟨h1,h2⟩:=TBM he;exact⟨h1,fun k=>.inl (h2 k)⟩
  case h_15=>simp[QJ]at hc
  case h_16=>simp[QJ]at hc
  case h_17 t x lo hi mx =>
   obtain⟨h0,he⟩:=Xg he;obtain⟨h1,h2⟩:=TBM he;exact⟨h1,fun k=>.inl (by unfold Jk;simp only;rw[←h2 k];unfold Qf;rw[N_ h0])⟩
  case h_18=>obtain⟨h1,h2⟩:=TBM he;exact⟨h1,fun k=>.inl (h2 k)⟩
  case h_19=>obtain⟨h1,h2⟩:=TBM he;exact⟨h1,fun k=>.inl (h2 k)⟩
  case h_20=>obtain⟨h1,h2⟩:=TBM he;exact⟨h1,fun k=>.inl (h2 k)⟩
  case h_21=>obtain⟨h1,h2⟩:=TBM he;exact⟨h1,fun k=>.inl (h2 k)⟩
  case h_22=>obtain⟨h1,h2⟩:=TBM he;exact⟨h1,fun k=>.inl (h2 k)⟩
  case h_23=>simp[QJ]at hc
  case h_24=>simp[QJ]at hc
  case h_25=>simp[QJ]at hc
  case h_26 x i =>
   split at he
   ·rename_i l e
    obtain⟨h1,h2⟩:=Xg he;cases h2;exact⟨rfl,fun k=>.inl (by simp only[Jk,e];unfold Qf;rw[N_ h1])⟩
   ·cases he
  case h_27 args ts =>
   split at he
   ·rename_i x t h1 h2
    obtain⟨h3,h4⟩:=TBM he;exact⟨h3,fun k=>.inl (by simp only[Jk,h1,h2];exact h4 k)⟩
   ·cases he
  case h_28 args ts =>
   split at he
   ·rename_i x y h1
    obtain⟨h3,h4⟩:=TBM he;exact⟨h3,fun k=>.inl (by simp only[Jk,h1];exact h4 k)⟩
   ·cases he
  case h_29 args ts =>
   split at he
   ·rename_i x y h1
    obtain⟨h3,h4⟩:=TBM he;exact⟨h3,fun k=>.inl (by simp only[Jk,h1];exact h4 k)⟩
   ·cases he
  case h_30=>simp[QJ]at hc
  case h_31 args ts =>
   split at he
   ·rename_i x t h1 h2
    obtain⟨h3,h4⟩:=TBM he;exact⟨h3,fun k=>.inl (by simp only[Jk,h1,h2];exact h4 k)⟩
   ·cases he
  case h_32=>simp[QJ]at hc
  case h_33=>simp[QJ]at hc
  case h_34=>cases he
 ·obtain⟨f,args,ts,rfl⟩:=Jp he
  cases C' <;> simp[QJ]at hc
theorem dE {P:Program}{strict C':Bool}{nid:Option Nat}{op:Op}{ρ:Operand→AV}{h h':List AO}{v:AV}(hc:QJ C' op=1)(he:QF P tok strict C' nid op ρ h v h') :
  h'=h∧(strict=true→∀k,(∀ (id v n:Nat) (f:Nat→AV),h[id]?=some (.con v n f)→k[id]?=some (.con v n f))→QF P tok strict C' nid op ρ k v k):=by
 cases op <;> try(simp[QJ]at hc;done)
 case load t a =>
  rcases he with he |he
  ·simp only[Jk]at he
   cases hl:Qy P strict t (ρ a) h with
   |none=>simp[hl]at he
   |some x =>
    simp[hl]at he;obtain⟨rfl,rfl⟩:=he;refine⟨rfl,?_⟩;rintro rfl k hk;left;simp only[Jk];have:Qy P true t (ρ a) k=some x:=by
     unfold Qy at hl ⊢;cases hd:Cy P t with
     |none=>simp[hd]at hl
     |some kk =>
      simp only[hd]at hl ⊢;cases ha:ρ a with
      |ptr m f off=>simpa [ha]using hl
      |ref id ver off =>
       simp only[ha]at hl ⊢;cases ho:h[id]? with
       |none=>simp[ho]at hl
       |some o =>
        cases o with
        |row v m f=>simp only[ho]at hl;have:=(Xg hl).1.1;cases this
        |con v m f=>rw[hk id v m f ho];simpa [ho]using hl
        |_=>simp[ho]at hl
      |_=>simp[ha]at hl
    simp[this]
  ·obtain⟨f,args,ts,e⟩:=Jp he;cases e
 case call c =>
  obtain⟨callee,args,ts⟩:=c;cases callee with
  |builtin b=>cases b <;> simp[QJ]at hc
  |invoke r m=>simp[QJ]at hc
  |value f =>
   cases C' with
   |true=>simp[QJ]at hc
   |false =>
    rcases he with he | ⟨f',TB3,ts',e,g,G_,hf,H_⟩
    ·simp[Jk]at he
    ·cases e
     rcases H_ with⟨as',hw,h1,h2,h3⟩ | ⟨h1,as',h2,h3,h4,h5⟩ | ⟨h1,_⟩
     ·exact⟨h3,fun _ k _=>.inr ⟨f,args,ts,rfl,g,G_,hf,.inl ⟨as',hw,h1,h2,rfl⟩⟩⟩
     ·exact⟨h5,fun hs=>by rw[h1]at hs;cases hs⟩
     ·cases h1
theorem zI {P:Program}{strict C':Bool}{id:Nat}{op:Op}{ρ:Operand→AV}{h h':List AO}{v:AV}(hc:QJ C' op=2)(he:QF P tok strict C' (some id) op ρ h v h') :
  ∃ob:AO,ob.owned=true∧h'=h.set id ob∧∀k,QF P tok strict C' (some id) op ρ k v (k.set id ob):=by
 rcases he with he |he
 ·cases op <;> try(simp[QJ]at hc;done)
  case alloc t =>
   simp only[Jk,Bd]at he;cases hz:Qh P t with
   |none=>simp[hz]at he
   |some z =>
    simp[hz,QN,KL]at he;obtain⟨rfl,rfl⟩:=he;exact⟨.row 0 z.length (Xf z),rfl,rfl,fun k=>.inl (by simp[Jk,Bd,hz,QN,KL])⟩
  case box t x =>
   simp only[Jk,NO]at he;obtain⟨h1,h2⟩:=Xg he;simp only[QN,KL,ZBK,t_,ZAE]at h2;obtain⟨rfl,rfl⟩:=h2;exact⟨_,rfl,rfl,fun k=>.inl (by simp only[Jk,NO];unfold Qf;rw[N_ h1];rfl)⟩
  case makeSlice t l cp =>
   simp only[Jk,Ep]at he
   split at he
   ·rename_i e s b k1 n k2 m h1 h2 h3
    cases hz:Qh P e with
    |none=>simp[hz]at he
    |some z =>
     simp only[hz]at he;obtain⟨h4,h5⟩:=Xg he;simp only[QN,KL,ZBK,t_,ZAE]at h5;obtain⟨rfl,rfl⟩:=h5;exact⟨_,rfl,rfl,fun k=>.inl (by simp only[Jk,Ep,h1,h2,h3,hz];unfold Qf;rw[N_ h4];rfl)⟩
   ·cases he
  case makeMap t r =>
   cases r with
   |some r=>simp[Jk]at he
   |none =>
    simp only[Jk,EE]at he
    split at he
    ·rename_i kt et h1
     split at he
     ·rename_i k h2
      simp only[QN,KL,ZBK,t_,ZAE]at he;obtain⟨rfl,rfl⟩:=he;exact⟨_,rfl,rfl,fun k=>.inl (by simp only[Jk,EE,h1,h2];rfl)⟩
     ·cases he
    ·cases he
  case call c =>
   obtain⟨callee,args,ts⟩:=c;cases callee with
   |builtin b=>cases b <;> simp[QJ]at hc
   |invoke r m=>simp[QJ]at hc
   |value f=>cases C' <;> simp[QJ]at hc
 ·obtain⟨f,args,ts,rfl⟩:=Jp he
  cases C' <;> simp[QJ]at hc
theorem Ma {s:Nat}{y:AV}{h:List AO}{r:Nat×(Nat→AV)} {id:Nat} {ob:AO} (hu:h[id]?=some .D_) (hs:DN s y h=some r):DN s y (h.set id ob)=some r:=by
 unfold DN at hs ⊢;cases y with
 |osl i ver es off n =>
  by_cases hi:id=i
  ·subst hi;simp[hu]at hs
  ·simpa [L_ hi]using hs
 |_=>exact hs
theorem SN {P:Program}{strict C':Bool}{nid:Option Nat}{op:Op}{ρ:Operand→AV}{h h':List AO}{v:AV}(he:QF P tok strict C' nid op ρ h v h'){id:Nat}{ob:AO}(hu:h[id]?=some .D_)
  (hne:nid≠some id) (TEX:strict=true∨Cx op=true∨QJ C' op=0∨(∀f args ts,op≠.call { callee:=.value f,args:=args,argTypes:=ts })) :
  QF P tok strict C' nid op ρ (h.set id ob) v (h'.set id ob)∧h'[id]?=some .D_:=by
 have hlt:id<h.length:=(S_.1 hu).1;by_cases hb:strict=true∧Iq op=true
 ·obtain⟨rfl,hbs⟩:=hb
  cases op <;> simp only[Iq]at hbs <;> try(cases hbs;done)
  rename_i t n ps;rcases he with he |he
  ·replace he:Zv P t n (ps.toList.map fun p=>(p.1,ρ p.2)) h=some (v,h'):=he
   have hg:QF P tok true C' nid (.buildSlice t n ps) ρ (h.set id ob) v (h'.set id ob)↔_:=ZCo;unfold Zv at he;cases hel:AL P t with
   |none=>rw[hel]at he;cases he
   |some q =>
    obtain⟨e1,s1,b1⟩:=q;rw[hel]at he;cases hab:Ki P t n (ps.toList.map fun p=>(p.1,ρ p.2))with
    |none=>rw[hab]at he;cases he
    |some w =>
     rw[hab]at he;cases w <;> simp only[t_,ZAE]at he <;> try(cases he;done)
     obtain⟨rfl,rfl⟩:=he;refine⟨.inl ?_,by rw[T_ hlt];exact hu⟩;show Zv P t n (ps.toList.map fun p=>(p.1,ρ p.2)) (h.set id ob)=_;unfold Zv;rw[hel,hab];simp only[X_];rw[ZBN _ _ hlt]
  ·obtain⟨f,args,ts,e⟩:=Jp he;cases e
 by_cases h0:QJ C' op=0
 ·obtain⟨rfl,h2⟩:=jM h0 (fun hs=>by cases hq:Iq op with |true=>exact absurd ⟨hs,hq⟩ hb |false=>rfl) he
  exact⟨h2 _,hu⟩
 have other:∀ {i:Nat} {o:AO},h[i]?=some o→o≠.D_→i≠id:=by
  rintro i o ho hn rfl;rw[hu]at ho;cases ho;exact hn rfl
 have TBS:∀ {i:Nat},i≠id→(h.set id ob)[i]?=h[i]?:=fun hi=>L_ (w_ hi)
 have new:∀ (o:AO),KL nid (h.set id ob) o=(KL nid h o).set id ob∧(KL nid h o)[id]?=some .D_∧QN nid (h.set id ob)=QN nid h:=by
  intro o;cases nid with
  |none =>
   refine⟨?_,?_,by simp[QN]⟩
   ·simp only[KL];rw[ZBN _ _ hlt]
   ·simp only[KL];rw[T_ hlt];exact hu
  |some j =>
   have hj:j≠id:=fun e=>hne (by rw[e])
   refine⟨?_,?_,rfl⟩
   ·simp only[KL];rw[ZA2 _ _ (w_ hj)]
   ·simp only[KL];rw[L_ hj];exact hu
 rcases he with he |he
 ·cases op <;> try(first |exact absurd rfl h0 | (simp[Jk]at he;done))
  case load t a =>
   simp only[Jk]at he;cases hl:Qy P strict t (ρ a) h with
   |none=>simp[hl]at he
   |some x =>
    simp[hl]at he;obtain⟨rfl,rfl⟩:=he;refine⟨.inl ?_,hu⟩;simp only[Jk];have:Qy P strict t (ρ a) (h.set id ob)=some x:=by
     unfold Qy at hl ⊢;cases hd:Cy P t with
     |none=>simp[hd]at hl
     |some kk =>
      simp only[hd]at hl ⊢;cases ha:ρ a with
      |ptr m f off=>simpa [ha]using hl
      |ref i ver off =>
       simp only[ha]at hl ⊢;cases ho:h[i]? with
       |none=>simp[ho]at hl
       |some o =>
        have hi:i≠id:=other ho (by rintro rfl;simp[ho]at hl);rw[TBS hi];exact hl
      |_=>simp[ha]at hl
    simp[this]
  case store t a x =>
   simp only[Jk]at he;cases hl:ZC P strict t (ρ a) (ρ x) h with
   |none=>simp[hl]at he
   |some h1 =>
    simp[hl]at he;obtain⟨rfl,rfl⟩:=he;unfold ZC at hl;cases ha:ρ a with
    |ref i ver off =>
     simp only[ha]at hl;cases ho:h[i]? with
     |none=>simp[ho]at hl
     |some o =>
      have hi:i≠id:=other ho (by rintro rfl;simp[ho]at hl);simp only[ho]at hl;cases o with
      |row v' m f =>
       obtain⟨h2,h3⟩:=Xg hl;cases h3;refine⟨.inl ?_,by rw[L_ hi];exact hu⟩;simp only[Jk,ZC,ha,TBS hi,ho];unfold Qf;rw[N_ h2,ZA2 _ _ (w_ hi)];rfl
      |_=>simp at hl
    |_=>simp[ha]at hl
  case alloc t =>
   simp only[Jk,Bd]at he;cases hz:Qh P t with
   |none=>simp[hz]at he
   |some z =>
    simp[hz]at he;obtain⟨rfl,rfl⟩:=he;obtain⟨e1,e2,e3⟩:=new (.row 0 z.length (Xf z));exact⟨.inl (by simp[Jk,Bd,hz,e1,e3]),e2⟩
  case box t x =>
   simp only[Jk,NO]at he;obtain⟨h1,h2⟩:=Xg he;simp only[t_,ZAE]at h2;obtain⟨rfl,rfl⟩:=h2;obtain⟨e1,e2,e3⟩:=new (.row 0 (ρ x).cells.length (Xf ((ρ x).cells.map AV.boxed)));exact⟨.inl (by simp only[Jk,NO];unfold Qf;rw[N_ h1,e1,e3]),e2⟩
  case makeSlice t l cp =>
   simp only[Jk,Ep]at he
   split at he
   ·rename_i e s b k1 n k2 m h1 h2 h3
    cases hz:Qh P e with
    |none=>simp[hz]at he
    |some z =>
     simp only[hz]at he;obtain⟨h4,h5⟩:=Xg he;simp only[t_,ZAE]at h5;obtain⟨rfl,rfl⟩:=h5;obtain⟨e1,e2,e3⟩:=new (.row 0 (n.toNat*s) (KY z));exact⟨.inl (by simp only[Jk,Ep,h1,h2,h3,hz];unfold Qf;rw[N_ h4,e1,e3]),e2⟩
   ·cases he
  case makeMap t r =>
   cases r with
   |some r=>simp[Jk]at he
   |none =>
    simp only[Jk,EE]at he
    split at he
    ·rename_i kt et h1
     split at he
     ·rename_i k h2
      simp only[t_,ZAE]at he;obtain⟨rfl,rfl⟩:=he;obtain⟨e1,e2,e3⟩:=new (.map k fun _=>none);exact⟨.inl (by simp only[Jk,EE,h1,h2,e1,e3]),e2⟩
     ·cases he
    ·cases he
  case lookup t x i ok =>
   simp only[Jk]at he;cases hl:DM P t (ρ x) (ρ i) ok h with
   |none=>simp[hl]at he
   |some y =>
    simp[hl]at he;obtain⟨rfl,rfl⟩:=he;refine⟨.inl ?_,hu⟩;simp only[Jk];have:DM P t (ρ x) (ρ i) ok (h.set id ob)=some y:=by
     unfold DM at hl ⊢
     split at hl
     ·rename_i kt et ik n h1 h2
      split at hl
      ·rename_i k z h3 h4
       split at hl
       ·rename_i h5;exact hl
       ·exact hl
       ·rename_i j h5
        cases ho:h[j]? with
        |none=>simp[ho]at hl
        |some o =>
         have hj:j≠id:=other ho (by rintro rfl;simp[ho]at hl);simp only[TBS hj];exact hl
       ·cases hl
      ·cases hl
     ·cases hl
    simp[this]
  case mapUpdate t m k x =>
   simp only[Jk]at he;cases hl:Zx P t (ρ m) (ρ k) (ρ x) h with
   |none=>simp[hl]at he
   |some h1 =>
    simp[hl]at he;obtain⟨rfl,rfl⟩:=he;unfold Zx at hl
    split at hl
    ·rename_i kt et j ik n e1 e2 e3
     split at hl
     ·rename_i kk k' g e4 ho
      have hj:j≠id:=other ho (by simp);obtain⟨h2,h3⟩:=Xg hl;cases h3;refine⟨.inl ?_,by rw[L_ hj];exact hu⟩;simp only[Jk,Zx,e1,e2,e3,e4,TBS hj,ho];unfold Qf;rw[N_ h2,ZA2 _ _ (w_ hj)];rfl
     ·cases hl
    ·cases hl
  case insert t m k x =>
   simp only[Jk]at he;cases hl:Zx P t (ρ m) (ρ k) (ρ x) h with
   |none=>simp[hl]at he
   |some h1 =>
    simp[hl]at he;obtain⟨rfl,rfl⟩:=he;unfold Zx at hl
    split at hl
    ·rename_i kt et j ik n e1 e2 e3
     split at hl
     ·rename_i kk k' g e4 ho
      have hj:j≠id:=other ho (by simp);obtain⟨h2,h3⟩:=Xg hl;cases h3;refine⟨.inl ?_,by rw[L_ hj];exact hu⟩;simp only[Jk,Zx,e1,e2,e3,e4,TBS hj,ho];unfold Qf;rw[N_ h2,ZA2 _ _ (w_ hj)];rfl
     ·cases hl
    ·cases hl
  case call c =>
   obtain⟨callee,args,ts⟩:=c;cases callee with
   |invoke r m=>simp[Jk]at he
   |value f=>simp[Jk]at he
   |builtin b =>
    cases b <;> try(first | (simp[Jk]at he;done) | (exact absurd rfl h0))
    case clear =>
     simp only[Jk]at he
     split at he
     ·rename_i x t e1 e2
      have hap:Gd P t (ρ x) h=some (v,h')→Gd P t (ρ x) (h.set id ob)=some (v,h'.set id ob)∧h'[id]?=some .D_:=by
       intro h2;unfold Gd at h2 ⊢;cases hel:AL P t with
       |none=>simp[hel]at h2
       |some q =>
        obtain⟨e,s,by_⟩:=q;simp only[hel]at h2 ⊢;cases hx:ρ x with
        |osl i ver es off n =>
         simp only[hx]at h2 ⊢;cases ho:h[i]? with
         |none=>simp[ho]at h2
         |some o =>
          have hi:i≠id:=other ho (by rintro rfl;simp[ho]at h2);simp only[TBS hi,ho]at h2 ⊢;cases o with
          |row v' k f =>
           obtain⟨h3,h4⟩:=Xg h2;simp only[t_,ZAE]at h4;obtain⟨rfl,rfl⟩:=h4;refine⟨?_,by rw[L_ hi];exact hu⟩
           dsimp only
           unfold Qf;rw[N_ h3,ZA2 _ _ (w_ hi)]
          |_=>simp at h2
        |_=>simp[hx]at h2
      refine⟨.inl ?_,(hap he).2⟩;simp only[Jk,e1,e2];exact(hap he).1
     ·cases he
    case copy =>
     simp only[Jk]at he
     split at he
     ·rename_i x y t t' e1 e2
      have hap:FX P t (ρ x) (ρ y) h=some (v,h')→FX P t (ρ x) (ρ y) (h.set id ob)=some (v,h'.set id ob)∧h'[id]?=some .D_:=by
       intro h2;unfold FX at h2 ⊢;cases hel:AL P t with
       |none=>simp[hel]at h2
       |some q =>
        obtain⟨e,s,by_⟩:=q;simp only[hel]at h2 ⊢;cases hsr:DN s (ρ y) h with
        |none=>simp[hsr]at h2
        |some q =>
         obtain⟨m,g⟩:=q;simp only[hsr]at h2;simp only[Ma (ob:=ob) hu hsr];cases hx:ρ x with
         |osl i ver es off n =>
          simp only[hx]at h2 ⊢;cases ho:h[i]? with
          |none=>simp[ho]at h2
          |some o =>
           have hi:i≠id:=other ho (by rintro rfl;simp[ho]at h2);simp only[TBS hi,ho]at h2 ⊢;cases o with
           |row v' k f =>
            obtain⟨h3,h4⟩:=Xg h2;simp only[t_,ZAE]at h4;obtain⟨rfl,rfl⟩:=h4;refine⟨?_,by rw[L_ hi];exact hu⟩
            dsimp only
            unfold Qf;rw[N_ h3,ZA2 _ _ (w_ hi)]
           |_=>simp at h2
         |_=>simp[hx]at h2
      refine⟨.inl ?_,(hap he).2⟩;simp only[Jk,e1,e2];exact(hap he).1
     ·cases he
    case append =>
     simp only[Jk]at he
     split at he
     ·rename_i x y t t' e1 e2
      have hz:K8 P t t' (ρ x) (ρ y) h=some (v,h')→K8 P t t' (ρ x) (ρ y) (h.set id ob)=some (v,h'.set id ob)∧h'[id]?=some .D_:=by
       intro h2;unfold K8 at h2 ⊢
       split at h2
       ·split at h2
        ·rename_i z hz
         obtain⟨h3,h4⟩:=Xg h2;simp only[t_,ZAE]at h4;obtain⟨rfl,rfl⟩:=h4;refine⟨?_,by rw[T_ hlt];exact hu⟩;unfold Qf;rw[N_ h3,ZBN _ _ hlt,X_]
        ·cases h2
       ·split at h2
        ·split at h2
         ·rename_i h0
          cases h2;exact⟨N_ h0,hu⟩
         ·rename_i h0
          obtain⟨h3,h4⟩:=Xg h2;simp only[t_,ZAE]at h4;obtain⟨rfl,rfl⟩:=h4;refine⟨?_,by rw[T_ hlt];exact hu⟩;unfold Qf;simp only[M_ h0];rw[N_ h3,ZBN _ _ hlt,X_]
        ·cases h2
       ·rename_i i ver es off N n _ _ _ _
        split at h2
        ·cases ho:h[i]? with
         |none=>simp[ho]at h2
         |some o =>
          have hi:i≠id:=other ho (by rintro rfl;simp[ho]at h2);simp only[TBS hi,ho]at h2 ⊢;cases o with
          |row v' k f =>
           simp only at h2 ⊢;by_cases h0:n=0
           ·rw[N_ h0]at h2 ⊢
            cases h2;exact⟨rfl,hu⟩
           ·rw[M_ h0]at h2 ⊢
            obtain⟨h3,h4⟩:=Xg h2;simp only[t_,ZAE]at h4;obtain⟨rfl,rfl⟩:=h4;refine⟨?_,by rw[L_ hi];exact hu⟩;unfold Qf;rw[N_ h3,ZA2 _ _ (w_ hi)]
          |_=>simp at h2
        ·cases h2
       ·cases h2
      have hap:J5 P t (ρ x) (ρ y) h=some (v,h')→J5 P t (ρ x) (ρ y) (h.set id ob)=some (v,h'.set id ob)∧h'[id]?=some .D_:=by
       intro h2;unfold J5 at h2 ⊢;cases hel:AL P t with
       |none=>simp[hel]at h2
       |some q =>
        obtain⟨e,s,by_⟩:=q;simp only[hel]at h2 ⊢;cases hsr:DN s (ρ y) h with
        |none=>simp[hsr]at h2
        |some q =>
         obtain⟨m,g⟩:=q;simp only[hsr]at h2;simp only[Ma (ob:=ob) hu hsr];cases hx:ρ x with
         |osl i ver es off n =>
          simp only[hx]at h2 ⊢;cases ho:h[i]? with
          |none=>simp[ho]at h2
          |some o =>
           have hi:i≠id:=other ho (by rintro rfl;simp[ho]at h2);simp only[TBS hi,ho]at h2 ⊢;cases o with
           |row v' k f =>
            obtain⟨h3,h4⟩:=Xg h2;simp only[t_,ZAE]at h4;obtain⟨rfl,rfl⟩:=h4;refine⟨?_,by rw[L_ hi];exact hu⟩
            dsimp only
            unfold Qf;rw[N_ h3,ZA2 _ _ (w_ hi)]
           |_=>simp at h2
         |sl n k f tt =>
          simp only[hx]at h2 ⊢;cases tt with
          |false=>simp at h2
          |true =>
           simp only at h2 ⊢;by_cases hz0:m=0∧0<n
           ·rw[N_ hz0]at h2 ⊢
            cases h2;exact⟨rfl,hu⟩
           rw[M_ hz0]at h2 ⊢;obtain⟨h3,h4⟩:=Xg h2;simp only[t_,ZAE]at h4;obtain⟨rfl,rfl⟩:=h4;refine⟨?_,by rw[T_ hlt];exact hu⟩;unfold Qf;rw[N_ h3,ZBN _ _ hlt,X_]
         |_=>simp[hx]at h2
      split at he
      ·rename_i h1
       refine⟨.inl ?_,(hap he).2⟩;simp only[Jk,e1,e2];rw[N_ h1];exact(hap he).1
      ·rename_i h1
       refine⟨.inl ?_,(hz he).2⟩;simp only[Jk,e1,e2];rw[M_ h1];exact(hz he).1
     ·cases he
 ·obtain⟨f,args,ts,rfl,g,G_,hf,H_⟩:=he
  have hst:strict=true:=by
   rcases TEX with h |h |h |h
   ·exact h
   ·simp[Cx]at h
   ·exact absurd h h0
   ·exact absurd rfl (h f args ts)
  rcases H_ with⟨as',hw,h1,h2,rfl⟩ | ⟨h1,_⟩ | ⟨h1,as',hw,E,hE,rfl,TBq,TAM,hub⟩
  ·exact⟨.inr ⟨f,args,ts,rfl,g,G_,hf,.inl ⟨as',hw,h1,h2,rfl⟩⟩,hu⟩
  ·rw[hst]at h1;cases h1
  ·have hov:∀h2,gY (h.set id ob) h2→gY h h2:=fun h2 ho i hi=>by
    have TDF:i≠id:=fun e=>hi (by rw[e];exact hu)
    have:=ho i (by rw[TBS TDF];exact hi);rw[this,TBS TDF]
   refine⟨.inr ⟨f,args,ts,rfl,g,G_,hf,.inr (.inr ⟨h1,as',hw,E,fun h2 ho=>hE h2 (hov h2 ho),TAM h id ob (fun _ _=>rfl) hu,?_,?_,?_⟩)⟩,hub id hu⟩
   ·intro i v n g'
    by_cases hi:i=id
    ·subst hi
     have TDM:i<(E h).length:=(S_.1 (hub i hu)).1;simp[hlt,TDM]
    ·rw[TBS hi,L_ (w_ hi)];exact TBq i v n g'
   ·intro h2 i ob' ho hi
    by_cases hii:i=id
    ·subst hii
     exact TAM h2 i ob' (hov h2 ho) hu
    ·rw[TBS hii]at hi
     exact TAM h2 i ob' (hov h2 ho) hi
   ·intro i hi
    by_cases hii:i=id
    ·subst hii
     have TDM:i<(E h).length:=(S_.1 (hub i hu)).1;simp[hlt]at hi;simp[TDM,hi]
    ·rw[TBS hii]at hi
     rw[L_ (w_ hii)];exact hub i hi
theorem Z6 (h:List AO):K5 h h:=fun _ _ _ _=>ZCo
theorem QY {h:List AO}{id:Nat}{o ob:AO}(ho:h[id]?=some o)(h1:∀ v n f,o≠.con v n f:=by simp)(h2:∀v n f,ob≠.con v n f:=by simp):K5 h (h.set id ob):=by
 intro i v n f;by_cases hi:id=i
 ·subst hi
  have hlt:=(S_.1 ho).1;simp only[W_ hlt,ho,t_];exact⟨fun e=>absurd e (h1 v n f),fun e=>absurd e (h2 v n f)⟩
 ·rw[L_ hi]
theorem ZV {h:List AO}{ob:AO}(h2:∀v n f,ob≠.con v n f:=by simp):K5 h (h ++ [ob]):=by
 intro i v n f;rw[ZDr]
 split
 ·rfl
 ·rename_i hi
  rw[k_ (by omega)];constructor
  ·intro e;cases e
  ·intro e
   cases hj:i-h.length with
   |zero=>rw[hj]at e;simp at e;exact absurd e (h2 v n f)
   |succ k=>rw[hj]at e;simp at e
theorem Fu {nid:Option Nat}{h:List AO}{ob:AO}(hu:∀ id,nid=some id→h[id]?=some .D_)(h2:∀v n f,ob≠.con v n f:=by simp):K5 h (KL nid h ob):=by
 cases nid with
 |none=>exact ZV h2
 |some id=>exact QY (hu id rfl) (by simp) h2
theorem jN {P:Program}{strict C':Bool}{nid:Option Nat}{op:Op}{ρ:Operand→AV}{h h':List AO}{v:AV}(he:QF P tok strict C' nid op ρ h v h')(hu:∀id,nid=some id→h[id]?=some .D_):K5 h h':=by
 by_cases hb:strict=true∧Iq op=true
 ·obtain⟨rfl,hbs⟩:=hb
  cases op <;> simp only[Iq]at hbs <;> try(cases hbs;done)
  rename_i t n ps;rcases he with he |he
  ·replace he:Zv P t n (ps.toList.map fun p=>(p.1,ρ p.2)) h=some (v,h'):=he
   unfold Zv at he
   split at he
   ·split at he
    ·cases he
     exact ZV
    ·cases he
   ·cases he
  ·obtain⟨f,args,ts,e⟩:=Jp he;cases e
 by_cases h0:QJ C' op=0
 ·obtain⟨rfl,_⟩:=jM h0 (fun hs=>by cases hq:Iq op with |true=>exact absurd ⟨hs,hq⟩ hb |false=>rfl) he;exact Z6 _
 by_cases h1:QJ C' op=1
 ·obtain⟨rfl,_⟩:=dE h1 he;exact Z6 _
 rcases he with he |he
 ·cases op <;> try(first |exact absurd rfl h0 |exact absurd rfl h1 | (simp[Jk]at he;done))
  case store t a x =>
   simp only[Jk]at he;cases hl:ZC P strict t (ρ a) (ρ x) h with
   |none=>simp[hl]at he
   |some h1 =>
    simp[hl]at he;obtain⟨rfl,rfl⟩:=he;unfold ZC at hl;cases ha:ρ a with
    |ref i ver off =>
     simp only[ha]at hl;cases ho:h[i]? with
     |none=>simp[ho]at hl
     |some o =>
      simp only[ho]at hl;cases o with
      |row v' m f =>
       obtain⟨h2,h3⟩:=Xg hl;cases h3;exact QY ho
      |_=>simp at hl
    |_=>simp[ha]at hl
  case alloc t =>
   simp only[Jk,Bd]at he;cases hz:Qh P t with
   |none=>simp[hz]at he
   |some z =>
    simp[hz]at he;obtain⟨rfl,rfl⟩:=he;exact Fu hu
  case box t x =>
   simp only[Jk,NO]at he;obtain⟨h1,h2⟩:=Xg he;simp only[t_,ZAE]at h2;obtain⟨rfl,rfl⟩:=h2;exact Fu hu
  case makeSlice t l cp =>
   simp only[Jk,Ep]at he
   split at he
   ·rename_i e s b k1 n k2 m h1 h2 h3
    cases hz:Qh P e with
    |none=>simp[hz]at he
    |some z =>
     simp only[hz]at he;obtain⟨h4,h5⟩:=Xg he;simp only[t_,ZAE]at h5;obtain⟨rfl,rfl⟩:=h5;exact Fu hu
   ·cases he
  case makeMap t r =>
   cases r with
   |some r=>simp[Jk]at he
   |none =>
    simp only[Jk,EE]at he
    split at he
    ·split at he
     ·simp only[t_,ZAE]at he
      obtain⟨rfl,rfl⟩:=he;exact Fu hu
     ·cases he
    ·cases he
  case lookup t x i ok =>
   simp only[Jk]at he;cases hl:DM P t (ρ x) (ρ i) ok h with
   |none=>simp[hl]at he
   |some y=>simp[hl]at he;obtain⟨rfl,rfl⟩:=he;exact Z6 _
  case mapUpdate t m k x =>
   simp only[Jk]at he;cases hl:Zx P t (ρ m) (ρ k) (ρ x) h with
   |none=>simp[hl]at he
   |some h1 =>
    simp[hl]at he;obtain⟨rfl,rfl⟩:=he;unfold Zx at hl
    split at hl
    ·split at hl
     ·rename_i kk k' g e4 ho
      obtain⟨h2,h3⟩:=Xg hl;cases h3;exact QY ho
     ·cases hl
    ·cases hl
  case insert t m k x =>
   simp only[Jk]at he;cases hl:Zx P t (ρ m) (ρ k) (ρ x) h with
   |none=>simp[hl]at he
   |some h1 =>
    simp[hl]at he;obtain⟨rfl,rfl⟩:=he;unfold Zx at hl
    split at hl
    ·split at hl
     ·rename_i kk k' g e4 ho
      obtain⟨h2,h3⟩:=Xg hl;cases h3;exact QY ho
     ·cases hl
    ·cases hl
  case call c =>
   obtain⟨callee,args,ts⟩:=c;cases callee with
   |invoke r m=>simp[Jk]at he
   |value f=>simp[Jk]at he
   |builtin b =>
    cases b <;> try(first | (simp[Jk]at he;done) | (exact absurd rfl h0))
    case clear =>
     simp only[Jk]at he
     split at he
     ·have h2:=he
      unfold Gd at h2
      split at h2
      ·cases h2
      ·split at h2
       ·split at h2
        ·rename_i ho
         obtain⟨h3,h4⟩:=Xg h2;simp only[t_,ZAE]at h4;obtain⟨rfl,rfl⟩:=h4;exact QY ho
        ·cases h2
       ·cases h2
     ·cases he
    case copy =>
     simp only[Jk]at he
     split at he
     ·have h2:=he
      unfold FX at h2
      split at h2
      ·cases h2
      ·split at h2
       ·cases h2
       ·split at h2
        ·split at h2
         ·rename_i ho
          obtain⟨h3,h4⟩:=Xg h2;simp only[t_,ZAE]at h4;obtain⟨rfl,rfl⟩:=h4;exact QY ho
         ·cases h2
        ·cases h2
     ·cases he
    case append =>
     simp only[Jk]at he
     split at he
     ·rename_i x y t t' e1 e2
      split at he
      ·rename_i h1
       have h2:=he;unfold J5 at h2
       split at h2
       ·cases h2
       ·split at h2
        ·cases h2
        ·split at h2
         ·split at h2
          ·rename_i ho
           obtain⟨h3,h4⟩:=Xg h2;simp only[t_,ZAE]at h4;obtain⟨rfl,rfl⟩:=h4;exact QY ho
          ·cases h2
         ·split at h2
          ·cases h2;exact fun _ _ _ _=>ZCo
          obtain⟨h3,h4⟩:=Xg h2;simp only[t_,ZAE]at h4;obtain⟨rfl,rfl⟩:=h4;exact ZV
         ·cases h2
      ·have h2:=he
       unfold K8 at h2
       split at h2
       ·split at h2
        ·obtain⟨h3,h4⟩:=Xg h2
         simp only[t_,ZAE]at h4;obtain⟨rfl,rfl⟩:=h4;exact ZV
        ·cases h2
       ·split at h2
        ·split at h2
         ·cases h2;exact fun _ _ _ _=>ZCo
         ·obtain⟨h3,h4⟩:=Xg h2
          simp only[t_,ZAE]at h4;obtain⟨rfl,rfl⟩:=h4;exact ZV
        ·cases h2
       ·rename_i i ver es off N n _ _ _ _
        split at h2
        ·cases ho:h[i]? with
         |none=>simp[ho]at h2
         |some o =>
          simp only[ho]at h2;cases o with
          |row v' k f =>
           simp only at h2
           split at h2
           ·cases h2;exact fun _ _ _ _=>ZCo
           ·obtain⟨h3,h4⟩:=Xg h2
            simp only[t_,ZAE]at h4;obtain⟨rfl,rfl⟩:=h4;exact QY ho
          |_=>simp at h2
        ·cases h2
       ·cases h2
     ·cases he
 ·obtain⟨f,args,ts,rfl,g,G_,hf,H_⟩:=he
  rcases H_ with⟨_,_,_,_,rfl⟩ | ⟨_,_,_,_,_,rfl⟩ | ⟨_,_,_,E,_,_,TBq,_⟩
  ·exact Z6 _
  ·exact Z6 _
  ·exact TBq
structure AS.eqv (s t:AS):Prop where
 n0:s.n0=t.n0
 hid:s.hid=t.hid
 len:s.sl.length=t.sl.length
 h:s.h=t.h
 get:∀i,s.get i=t.get i
theorem AS.eqv.B_ (s:AS):s.eqv s:=⟨rfl,rfl,rfl,rfl,fun _=>rfl⟩
theorem AS.eqv.trans {a b c:AS}(h:a.eqv b)(k:b.eqv c):a.eqv c:=⟨h.n0.trans k.n0,h.hid.trans k.hid,h.len.trans k.len,h.h.trans k.h,fun i=>(h.get i).trans (k.get i)⟩
theorem Wf (s:AS)(i:Nat)(v:AV):(s.put i v).n0=s.n0:=by unfold AS.put;split <;> rfl
theorem am (s:AS)(i:Nat)(v:AV):(s.put i v).hid=s.hid:=by unfold AS.put;split <;> rfl
theorem Rw (s:AS)(i:Nat)(v:AV):(s.put i v).sl.length=s.sl.length:=by unfold AS.put;split <;> simp
theorem Ht (s:AS)(i j:Nat)(v:AV):(s.put i v).get j=if j=i∧(i<s.n0→i<s.sl.length)then v else s.get j:=by
 unfold AS.put AS.get;by_cases hi:i<s.n0
 ·simp only[hi,if_true]
  by_cases hj:j<s.n0
  ·simp only[hj,if_true,FA]
   by_cases he:j=i
   ·subst he
    by_cases hl:j<s.sl.length
    ·simp[hl]
    ·simp[hl]
   ·simp[he,w_ he]
  ·have:j≠i:=by omega
   simp[hj,this]
 ·simp only[hi,if_false]
  by_cases hj:j<s.n0
  ·have:j≠i:=by omega
   simp[hj,this]
  ·simp only[hj,if_false,XM]
   by_cases he:j=i <;> simp[he]
theorem AS.eqv.E' {s t:AS}(h:s.eqv t)(hh:List AO)(d:Option Nat)(v:AV):(({ s with h:=hh }:AS).E' d v).eqv (({ t with h:=hh }:AS).E' d v):=by
 cases d with
 |none=>exact⟨h.n0,h.hid,h.len,rfl,h.get⟩
 |some i =>
  refine⟨by simp[AS.E',Wf,h.n0],by simp[AS.E',am,h.hid],by simp[AS.E',Rw,h.len],by simp[AS.E'],fun j=>?_⟩;simp only[AS.E',Ht,h.n0,h.len];have:=h.get j;unfold AS.get at this ⊢;simp only[h.n0]at this ⊢
  split
  ·rfl
  ·exact this
theorem AS.eqv.ev {s t:AS}(h:s.eqv t)(x:Operand):s.ev x=t.ev x:=by
 cases x <;> simp[AS.ev,h.get]
theorem AS.eqv.TAw {s t:AS}(h:s.eqv t)(all:Array Oper)(o:Oper):TAw all s o=TAw all t o:=by
 unfold Ab.TAw;cases o.guard with
 |none=>rfl
 |some q =>
  obtain⟨j,w⟩:=q;simp only[h.get]
theorem GStep.eqv {P:Program}{strict:Nat→Bool}{C':Bool}{nid:Nat→Option Nat}{all:Array Oper}{i:Nat}{s s1 t:AS}(h:GStep P tok strict C' nid all i s s1)(he:s.eqv t):∃t1,GStep P tok strict C' nid all i t t1∧s1.eqv t1:=by
 obtain⟨o,ho,h⟩:=h;have hev:s.ev=t.ev:=funext he.ev;rcases h with⟨hg,hu,v,h',hh,rfl⟩ | ⟨hg,rfl⟩
 ·refine⟨_,⟨o,ho,.inl ⟨by rw[←he.TAw];exact hg,by rw[←he.h];exact hu,v,h',by rw[←hev,←he.h];exact hh,rfl⟩⟩,he.E' h' o.dst v⟩
 ·refine⟨_,⟨o,ho,.inr ⟨by rw[←he.TAw];exact hg,rfl⟩⟩,?_⟩
  have:=he.E' t.h o.dst XZ;rw[show({ s with h:=t.h }:AS)=s by rw[←he.h]]at this;exact this
theorem TAc.eqv {P:Program}{strict:Nat→Bool}{C':Bool}{nid:Nat→Option Nat}{all:Array Oper}:∀ {l:List Nat} {s s' t:AS},TAc P tok strict C' nid all l s s'→s.eqv t→∃t',TAc P tok strict C' nid all l t t'∧s'.eqv t'
 | [],s,s',t,h,he=>by cases h;exact⟨t,rfl,he⟩
 |i :: l,s,s',t,⟨s1,h1,h2⟩,he=>by
  obtain⟨t1,g1,e1⟩:=h1.eqv he;obtain⟨t',g2,e2⟩:=TAc.eqv h2 e1;exact⟨t',⟨t1,g1,g2⟩,e2⟩
theorem St.eqv {N:Nat}{c:Ctx}{a:Act}{s t:AS}(h:St N c a s)(he:s.eqv t):St N c a t :=
 ⟨h.size,h.defers,fun i=>by rw[←he.get];exact h.TAQ i,by rw[←he.h];exact h.heap,h.H_⟩
variable {tok:List Tok}
theorem cG {P:Program}{strict:Bool}{nid:Option Nat}{op:Op}{ρ ρ':Operand→AV}(hρ:∀ x∈op.operands,ρ x=ρ' x)(h:List AO):Jk P strict nid op ρ h=Jk P strict nid op ρ' h:=by
  have TDZ:∀ps:Array (Nat×Operand),(∀x∈(ps.toList.map (·.2)).toArray,ρ x=ρ' x)→(ps.toList.map fun p=>(p.1,ρ p.2))=(ps.toList.map fun p=>(p.1,ρ' p.2)):=by
    intro ps hp;refine ZAh fun p hm=>?_
    rw[hp p.2 (by simp;exact⟨p.1,by simpa using hm⟩)]
  cases op <;> simp only[ZBc]at hρ
  case move x=>simp[Jk,hρ x (by simp)]
  case assign x=>simp[Jk,hρ x (by simp)]
  case pick c a b=>simp[Jk,hρ c (by simp),hρ a (by simp),hρ b (by simp)]
  case box t x=>simp[Jk,hρ x (by simp)]
  case build t ps=>simp only[Jk,TDZ ps hρ]
  case buildSlice t n ps=>simp only[Jk,TDZ ps hρ]
  case load t a=>simp[Jk,hρ a (by simp)]
  case store t a x=>simp[Jk,hρ a (by simp),hρ x (by simp)]
  case nilCheck x=>simp[Jk,hρ x (by simp)]
  case binOp op t x y u=>simp[Jk,hρ x (by simp),hρ y (by simp)]
  case unOp op t x=>simp[Jk,hρ x (by simp)]
  case convert s d x=>simp[Jk,hρ x (by simp)]
  case makeFunc fn first G_ =>
    have:G_.toList.map ρ=G_.toList.map ρ':=ZAh fun x hx=>hρ x (by simp;right;simpa using hx)
    have TEY:first.toList.map ρ=first.toList.map ρ':=ZAh fun x hx=>hρ x (by simp;left;simpa using hx)
    cases fn <;> simp[Jk,this,TEY]
  case makeSlice t l c=>simp[Jk,hρ l (by simp),hρ c (by simp)]
  case slice t x lo hi mx =>
    have h0:=hρ x (by simp);have h1:lo.map ρ=lo.map ρ':=by cases lo <;> simp_all
    have h2:hi.map ρ=hi.map ρ':=by cases hi <;> simp_all
    have h3:mx.map ρ=mx.map ρ':=by cases mx <;> simp_all
    simp[Jk,h0,h1,h2,h3]
  case fieldAddr t x i=>simp[Jk,hρ x (by simp)]
  case field t x i=>simp[Jk,hρ x (by simp)]
  case indexAddr t x i=>simp[Jk,hρ x (by simp),hρ i (by simp)]
  case index t x i=>simp[Jk,hρ x (by simp),hρ i (by simp)]
  case sliceToArrayPointer t x=>simp[Jk,hρ x (by simp)]
  case lookup t x i ok=>simp[Jk,hρ x (by simp),hρ i (by simp)]
  case mapUpdate t m k v=>simp[Jk,hρ m (by simp),hρ k (by simp),hρ v (by simp)]
  case insert t m k v=>simp[Jk,hρ m (by simp),hρ k (by simp),hρ v (by simp)]
  case extract x i=>simp[Jk,hρ x (by simp)]
  case makeMap t r=>cases r <;> rfl
  case call c =>
    obtain⟨callee,args,ts⟩:=c;have TBC:∀x∈args.toList,ρ x=ρ' x:=fun x hx=>hρ x (by simp[ZCI];right;simpa using hx)
    cases callee with
    |value f=>rfl
    |invoke r m=>rfl
    |builtin b =>
      cases b <;> first
        |rfl
        | (simp only[Jk]
           split <;> first
             |rfl
             | (rename_i x y t t' e1 e2;simp[TBC x (by rw[e1];simp),TBC y (by rw[e1];simp)])
             | (rename_i x t e1 e2;simp[TBC x (by rw[e1];simp)])
             | (rename_i x y e1;simp[TBC x (by rw[e1];simp),TBC y (by rw[e1];simp)]))
  all_goals rfl
theorem PZ {P:Program}{strict C':Bool}{op:Op}{ρ ρ':Operand→AV}(hρ:∀ x∈op.operands,ρ x=ρ' x){h h':List AO}{v:AV}(hc:I0 P tok strict C' op ρ h v h'):I0 P tok strict C' op ρ' h v h':=by
 obtain⟨f,args,ts,rfl,hr⟩:=hc;refine⟨f,args,ts,rfl,?_⟩;have h1:ρ f=ρ' f:=hρ f (by simp[ZBc,ZCI]);have h2:args.toList.map ρ=args.toList.map ρ':=ZAh fun x hx=>hρ x (by simp[ZBc,ZCI];right;simpa using hx)
 rw[←h1,←h2];exact hr
theorem CT {P:Program}{strict C':Bool}{nid:Option Nat}{op:Op}{ρ ρ':Operand→AV}(hρ:∀ x∈op.operands,ρ x=ρ' x){h h':List AO}{v:AV}(he:QF P tok strict C' nid op ρ h v h'):QF P tok strict C' nid op ρ' h v h':=by
 rcases he with he |he
 ·exact .inl (by rw[←cG hρ];exact he)
 ·exact .inr (PZ hρ he)
theorem Yw {s:AS}{d:Option Nat}{v:AV}{hh:List AO}{x:Operand}(hx:∀i,d=some i→x≠.tmp i):(({ s with h:=hh }:AS).E' d v).ev x=s.ev x:=by
 cases d with
 |none=>cases x <;> rfl
 |some i =>
  cases x with
  |tmp t =>
   have:t≠i:=fun e=>hx i rfl (by rw[e])
   show(({ s with h:=hh }:AS).put i v).get t=s.get t;rw[Ht,M_ (fun e=>this e.1)];rfl
  |_=>rfl
theorem AR {all:Array Oper}{o:Oper}{s:AS}{d:Option Nat}{v:AV}{hh:List AO}(hd:∀i,d=some i→i∉o.looksAt all):∀x∈o.op.operands,(({ s with h:=hh }:AS).E' d v).ev x=s.ev x:=by
 intro x hx;refine Yw fun i hi e=>hd i hi ?_
 subst e;unfold Oper.looksAt;exact List.mem_append_left _ (List.mem_filterMap.2 ⟨.tmp i,by simpa using hx,rfl⟩)
theorem ZG {all:Array Oper}{o:Oper}{s:AS}{d:Option Nat}{v:AV}{hh:List AO}(hd:∀i,d=some i→i∉o.looksAt all):TAw all (({ s with h:=hh }:AS).E' d v) o=TAw all s o:=by
 unfold TAw;cases hg:o.guard with
 |none=>rfl
 |some q =>
  obtain⟨j,w⟩:=q;simp only;cases ho:(all[j]?).bind (·.dst)with
  |none=>rfl
  |some t =>
   simp only;have:(({ s with h:=hh }:AS).E' d v).get t=s.get t:=by
    cases d with
    |none=>rfl
    |some i =>
     have hne:t≠i:=fun e=>hd i rfl (by unfold Oper.looksAt;simp[hg,ho,e])
     show(({ s with h:=hh }:AS).put i v).get t=s.get t;rw[Ht,M_ (fun e=>hne e.1)];rfl
   rw[this]
theorem AH (s:AS)(d:Option Nat)(v:AV)(hh:List AO):({ (s.E' d v)with h:=hh }:AS)=({ s with h:=hh }:AS).E' d v:=by
 cases d with
 |none=>rfl
 |some i=>simp only[AS.E'];unfold AS.put;simp only;split <;> rfl
theorem FJ {s:AS}{d e:Option Nat}{v u:AV}{h1 h2 k1:List AO}(hne:∀i,d=some i→e≠some i) :
  AS.eqv (({ (({ s with h:=h1 }:AS).E' d v)with h:=h2 }:AS).E' e u) (({ (({ s with h:=k1 }:AS).E' e u)with h:=h2 }:AS).E' d v):=by
 rw[AH,AH];show AS.eqv ((({ s with h:=h2 }:AS).E' d v).E' e u) ((({ s with h:=h2 }:AS).E' e u).E' d v);generalize ({ s with h:=h2 }:AS)=t;cases d with
 |none=>exact .B_ _
 |some i0 =>
  cases e with
  |none=>exact .B_ _
  |some j0 =>
   have hij:i0≠j0:=fun e=>hne i0 rfl (by rw[e])
   refine⟨by simp[AS.E',Wf],by simp[AS.E',am],by simp[AS.E',Rw],by simp[AS.E'],fun i=>?_⟩;simp only[AS.E',Ht,Wf,Rw];by_cases h1:i=j0
   ·subst h1
    simp[w_ hij]
   ·simp[h1]
theorem Id {P:Program}{strict C':Bool}{nid:Option Nat}{op:Op}{ρ:Operand→AV}{h h':List AO}{v:AV}(he:QF P tok strict C' nid op ρ h v h'){id:Nat}(hu:h[id]?=some .D_)(hne:nid≠some id):h'[id]?=some .D_:=by
 by_cases hc:∀f args ts,op≠.call { callee:=.value f,args:=args,argTypes:=ts }
 ·exact(SN (ob:=.dead) he hu hne (.inr (.inr (.inr hc)))).2
 ·rcases he with he | ⟨f,args,ts,rfl,g,G_,hf,H_⟩
  ·exfalso
   refine hc fun f args ts e=>?_
   subst e;simp[Jk]at he
  ·rcases H_ with⟨_,_,_,_,rfl⟩ | ⟨_,_,_,_,_,rfl⟩ | ⟨_,_,_,E,_,rfl,_,_,hub⟩
   ·exact hu
   ·exact hu
   ·exact hub id hu
def LF:Op→Bool
 | .call { callee:=.value _,.. }=>true
 |_=>false
def Dg:Op→Option Nat
 | .call c=>match c.callee with
  | .builtin .append=>match c.args.toList with
   | [.tmp t,_]=>some t
   |_=>none
  |_=>none
 |_=>none
theorem Cj {op:Op}{t:Nat}(h:Dg op=some t):∃y ts,op=.call { callee:=.builtin .append,args:=#[.tmp t,y],argTypes:=ts }:=by
 cases op <;> simp only[Dg]at h <;> try(cases h;done)
 rename_i c;obtain⟨callee,args,ts⟩:=c;simp only at h
 split at h
 ·split at h
  ·rename_i t' y he
   cases h;refine⟨y,ts,?_⟩;obtain rfl:args=#[.tmp t,y]:=by rw[←ZDg (xs:=args),he]
   rfl
  ·cases h
 ·cases h
def pQ (s:Bool)(op:Op):Bool:=!(s && Iq op)
theorem I6 {s:Bool}{op:Op}(h:pQ s op=true)(hs:s=true):Iq op=false:=by
 subst hs
 simpa [pQ]using h
def rV (strict:Nat→Bool)(all:Array Oper)(m t:Nat):Bool:=match all[m]? with
 |some o=>Iq o.op && !strict m && o.guard.isNone && o.dst == some t && (ZAO all.size).all fun q=>q == m || (match all[q]? with |some o'=>!(o'.dst == some t) |none=>true)
 |none=>false
def Do (strict:Nat→Bool)(all:Array Oper)(oi:Oper):Bool:=match Dg oi.op with
 |some t=>oi.after.any fun e=>ZBZ .any e && rV strict all e.on t
 |none=>false
def Nu (a:AV):Prop:=(∃n m f t,a=.sl n m f t)∨a=.any
def Lw (strict:Nat→Bool)(all:Array Oper)(i:Nat)(s:AS):Prop:=∀oi,all[i]?=some oi→Do strict all oi=true→∀t,Dg oi.op=some t→Nu (s.get t)
def oy:Op→Option Operand
 | .store _ a _=>some a
 |_=>none
theorem Un {op:Op}{a:Operand}(h:oy op=some a):∃t x,op=.store t a x:=by
 cases op <;> simp only[oy]at h <;> try(cases h;done)
 cases h;exact⟨_,_,rfl⟩
def E2 (strict:Nat→Bool)(fj fi sj si C':Bool)(all:Array Oper)(oj oi:Oper):Bool :=
  oj.apart all oi && pQ sj oj.op && pQ si oi.op &&
    (QJ C' oj.op == 0 || QJ C' oi.op == 0 || (QJ C' oj.op == 1 && QJ C' oi.op == 1) || (QJ C' oi.op == 2 && (sj || !LF oj.op)) ||
     (si && QJ C' oi.op == 1 && (QJ C' oj.op == 2 || QJ C' oj.op == 3)) || (sj && QJ C' oj.op == 1 && QJ C' oi.op == 3) || (Cx oj.op && Do strict all oi) || (Cx oi.op && (Dg oj.op).isSome) || (fj && fi && Cx oj.op && ((Dg oi.op).isSome || (oy oi.op).isSome)))
theorem EP {op:Op}(h:Cx op=true):∃t a,op=.load t a:=by
 cases op <;> simp[Cx]at h;exact⟨_,_,rfl⟩
theorem M8 {P:Program}{strict:Bool}{t:TypeId}{a v:AV}{h r:List AO}(hl:Qy P strict t a h=some v):Qy P strict t a (h ++ r)=some v:=by
 unfold Qy at hl ⊢;cases hd:Cy P t with
 |none=>simp[hd]at hl
 |some kk =>
  simp only[hd]at hl ⊢;cases ha:a with
  |ptr m f off=>simpa [ha]using hl
  |ref id ver off =>
   simp only[ha]at hl ⊢;cases hh:h[id]? with
   |none=>simp[hh]at hl
   |some o =>
    have:(h ++ r)[id]?=some o:=by rw[T_ (S_.1 hh).1];exact hh
    rw[this]
    simpa [hh]using hl
  |_=>simp[ha]at hl
theorem BD {α:Type}{p:Prop}{x:Option α}{v:α}(h:Qf p x=some v):x=some v:=by
 unfold Qf at h
 split at h
 ·exact h
 ·cases h
theorem PR {P:Program}{t:TypeId}{x y v:AV}{h h':List AO}(hx:Nu x)(he:J5 P t x y h=some (v,h')):∃r,h'=h ++ r:=by
 unfold J5 at he;cases h1:AL P t with
 |none=>simp[h1]at he
 |some e =>
  obtain⟨e1,s,b⟩:=e;simp only[h1]at he;cases h2:DN s y h with
  |none=>simp[h2]at he
  |some q =>
   obtain⟨m,g⟩:=q;simp only[h2]at he;rcases hx with⟨n,k,f,q,rfl⟩ |rfl
   ·cases q
    ·simp at he
    ·simp only at he
     split at he
     ·cases he;exact⟨[],by simp⟩
     have:=BD he;cases this;exact⟨_,rfl⟩
   ·simp at he
theorem I4 {P:Program}{t t':TypeId}{x y v:AV}{h h':List AO}(he:K8 P t t' x y h=some (v,h')):(∃r,h'=h ++ r)∨∃b ver es off n v k f k' f',x=.osl b ver es off n∧h[b]?=some (.row v k f)∧h'=h.set b (.row (v+1) k' f'):=by
 unfold K8 at he
 split at he
 ·split at he
  ·have:=BD he
   cases this;exact .inl ⟨_,rfl⟩
  ·cases he
 ·split at he
  ·split at he
   ·cases he;exact .inl ⟨[],by simp⟩
   ·have:=BD he
    cases this;exact .inl ⟨_,rfl⟩
  ·cases he
 ·split at he
  ·split at he
   ·rename_i ho
    split at he
    ·cases he;exact .inl ⟨[],by simp⟩
    ·have:=BD he
     cases this;exact .inr ⟨_,_,_,_,_,_,_,_,_,_,rfl,ho,rfl⟩
   ·cases he
  ·cases he
 ·cases he
theorem Sr {P:Program}{t t':TypeId}{x y v:AV}{h h':List AO}(hx:Nu x)(he:K8 P t t' x y h=some (v,h')):∃r,h'=h ++ r:=by
 rcases I4 he with h1 | ⟨b,ver,es,off,n,v,k,f,k',f',rfl,_⟩
 ·exact h1
 ·rcases hx with⟨_,_,_,_,h⟩ |h <;> cases h
theorem Vl {P:Program}{t t':TypeId}{x y v:AV}{h h':List AO}(he:K8 P t t' x y h=some (v,h')):(∃r,h'=h ++ r)∨∃b ver es off n ob,x=.osl b ver es off n∧h'=h.set b ob:=by
 rcases I4 he with h1 | ⟨b,ver,es,off,n,v,k,f,k',f',h1,h2,h3⟩
 ·exact .inl h1
 ·exact .inr ⟨b,ver,es,off,n,_,h1,h3⟩
theorem gk {P:Program}{sj si C':Bool}{nj ni:Option Nat}{oj oi:Op}{ρ:Operand→AV}{h h1 h2:List AO}{vj vi:AV}{t:Nat}
  (hl:Cx oj=true) (hx:Dg oi=some t) (hsl:Nu (ρ (.tmp t))) (hj:QF P tok sj C' nj oj ρ h vj h1) (hi:QF P tok si C' ni oi ρ h1 vi h2) :
  QF P tok si C' ni oi ρ h vi h2∧QF P tok sj C' nj oj ρ h2 vj h2∧∃r,h2=h ++ r:=by
 obtain⟨tl,al,rfl⟩:=EP hl;obtain⟨y,ts,rfl⟩:=Cj hx;have hj':Qy P sj tl (ρ al) h=some vj∧h1=h:=by
  rcases hj with he |he
  ·replace he:(Qy P sj tl (ρ al) h).map (fun v=>(v,h))=some (vj,h1):=he
   cases hv:Qy P sj tl (ρ al) h with
   |none=>simp[hv]at he
   |some x=>simp[hv]at he;exact⟨by rw[he.1],he.2.symm⟩
  ·obtain⟨f,args,ts,e⟩:=Jp he;cases e
 obtain⟨hv,rfl⟩:=hj';have hr:∃r,h2=h1 ++ r:=by
  rcases hi with he |he
  ·replace he:(match ts.toList with
    | [t1,t2]=>if t1=t2 then J5 P t1 (ρ (.tmp t)) (ρ y) h1 else K8 P t1 t2 (ρ (.tmp t)) (ρ y) h1
    |_=>none)=some (vi,h2):=by
    have e:Jk P si ni (.call { callee:=.builtin .append,args:=#[.tmp t,y],argTypes:=ts }) ρ h1=(match ts.toList with
     | [t1,t2]=>if t1=t2 then J5 P t1 (ρ (.tmp t)) (ρ y) h1 else K8 P t1 t2 (ρ (.tmp t)) (ρ y) h1
     |_=>none):=by
     show(match ([.tmp t,y]:List Operand),ts.toList with
      | [x,y],[t,t']=>if t=t' then J5 P t (ρ x) (ρ y) h1 else K8 P t t' (ρ x) (ρ y) h1
      |_,_=>none)=_
     match ts.toList with
     | []=>rfl
     | [_]=>rfl
     | [_,_]=>rfl
     |_ :: _ :: _ :: _=>rfl
    rw[←e];exact he
   split at he
   ·split at he
    ·exact PR hsl he
    ·exact Sr hsl he
   ·cases he
  ·obtain⟨f,args,ts,e⟩:=Jp he;cases e
 obtain⟨r,rfl⟩:=hr;refine⟨hi,.inl ?_,r,rfl⟩;show(Qy P sj tl (ρ al) (h1 ++ r)).map (fun v=>(v,h1 ++ r))=_;rw[M8 hv];rfl
theorem sd {P:Program}{sj si C':Bool}{nj ni:Option Nat}{oj oi:Op}{ρj ρi:Operand→AV}{h h1 h2:List AO}{vj vi:AV}
    (hj:QF P tok sj C' nj oj ρj h vj h1) (hi:QF P tok si C' ni oi ρi h1 vi h2)
    (uj:∀id,nj=some id→h[id]?=some .D_) (ui:∀id,ni=some id→h[id]?=some .D_) (hne:∀id,nj=some id→ni≠some id) (cj:nj≠none→QJ C' oj=2) (ci:ni≠none→QJ C' oi=2) (ci2:QJ C' oi=2→ni≠none)
    (bj:sj=true→Iq oj=false) (bi:si=true→Iq oi=false) (hm:QJ C' oj=0∨QJ C' oi=0∨(QJ C' oj=1∧QJ C' oi=1)∨(QJ C' oi=2∧(sj=true∨LF oj=false)) ∨
     (si=true∧QJ C' oi=1∧(QJ C' oj=2∨QJ C' oj=3))∨(sj=true∧QJ C' oj=1∧QJ C' oi=3)) :
    ∃k1,QF P tok si C' ni oi ρi h vi k1∧QF P tok sj C' nj oj ρj k1 vj h2∧∀id,nj=some id→k1[id]?=some .D_:=by
  have fin:∀k1,QF P tok si C' ni oi ρi h vi k1→∀id,nj=some id→k1[id]?=some .D_:=fun k1 he id hid=>Id he (uj id hid) (hne id hid)
  rcases hm with hm |hm | ⟨hm1,hm2⟩ | ⟨hm1,hm2⟩ | ⟨hs,hm1,hm2⟩ | ⟨hs,hm1,hm2⟩
  · obtain⟨rfl,hk⟩:=jM hm bj hj;exact⟨h2,hi,hk h2,fin _ hi⟩
  · obtain⟨rfl,hk⟩:=jM hm bi hi;exact⟨h,hk h,hj,fin _ (hk h)⟩
  · obtain⟨rfl,_⟩:=dE hm1 hj;obtain⟨rfl,_⟩:=dE hm2 hi;exact⟨_,hi,hj,fin _ hi⟩
  · obtain⟨id,rfl⟩:=Option.ne_none_iff_exists'.1 (ci2 hm1);obtain⟨ob,hob,rfl,hk⟩:=zI hm1 hi;refine⟨h.set id ob,hk h,(SN hj (ui id rfl) (fun e=>hne id e rfl) ?_).1,fin _ (hk h)⟩;rcases hm2 with hm2 |hm2
    · exact .inl hm2
    · right;right;right;rintro f args ts rfl;simp[LF]at hm2
  · obtain⟨rfl,hk⟩:=dE hm1 hi;have TBq:=jN hj uj;have:=hk hs h (fun id v n f e=>(TBq id v n f).2 e);exact⟨h,this,hj,fin _ this⟩
  · obtain⟨rfl,hk⟩:=dE hm1 hj;have TBq:=jN hi ui;exact⟨h2,hi,hk hs h2 (fun id v n f e=>(TBq id v n f).1 e),fin _ hi⟩
def Py (h h':List AO):Prop:=(∃r,h'=h ++ r)∨∃ (id ver k:Nat) (f:Nat→AV) (k':Nat) (f':Nat→AV),h[id]?=some (.row ver k f)∧h'=h.set id (.row (ver+1) k' f')
theorem Vi {P:Program}{t:TypeId}{x y v:AV}{h h':List AO}(he:J5 P t x y h=some (v,h')):Py h h':=by
 unfold J5 at he;cases h1:AL P t with
 |none=>simp[h1]at he
 |some e =>
  obtain⟨e1,s,b⟩:=e;simp only[h1]at he;cases h2:DN s y h with
  |none=>simp[h2]at he
  |some q =>
   obtain⟨m,g⟩:=q;simp only[h2]at he;cases x with
   |osl id ver es off n =>
    simp only at he;cases ho:h[id]? with
    |none=>simp[ho]at he
    |some o =>
     cases o with
     |row v0 k f =>
      simp only[ho]at he;have:=BD he;cases this;exact .inr ⟨id,v0,k,f,_,_,ho,rfl⟩
     |_=>simp[ho]at he
   |sl n k f q =>
    cases q
    ·simp at he
    ·simp only at he
     split at he
     ·cases he;exact .inl ⟨[],by simp⟩
     have:=BD he;cases this;exact .inl ⟨_,rfl⟩
   |_=>simp at he
theorem Yb {P:Program}{strict C':Bool}{nid:Option Nat}{op:Op}{ρ:Operand→AV}{h h':List AO}{v:AV}(hx:(Dg op).isSome=true) (he:QF P tok strict C' nid op ρ h v h'):Py h h':=by
 obtain⟨t,ht⟩:=ZBV.1 hx;obtain⟨y,ts,rfl⟩:=Cj ht;rcases he with he |he
 ·replace he:(match ts.toList with
   | [t1,t2]=>if t1=t2 then J5 P t1 (ρ (.tmp t)) (ρ y) h else K8 P t1 t2 (ρ (.tmp t)) (ρ y) h
   |_=>none)=some (v,h'):=by
   have e:Jk P strict nid (.call { callee:=.builtin .append,args:=#[.tmp t,y],argTypes:=ts }) ρ h=(match ts.toList with
    | [t1,t2]=>if t1=t2 then J5 P t1 (ρ (.tmp t)) (ρ y) h else K8 P t1 t2 (ρ (.tmp t)) (ρ y) h
    |_=>none):=by
    show(match ([.tmp t,y]:List Operand),ts.toList with
     | [x,y],[t,t']=>if t=t' then J5 P t (ρ x) (ρ y) h else K8 P t t' (ρ x) (ρ y) h
     |_,_=>none)=_
    match ts.toList with
    | []=>rfl
    | [_]=>rfl
    | [_,_]=>rfl
    |_ :: _ :: _ :: _=>rfl
   rw[←e];exact he
  split at he
  ·split at he
   ·exact Vi he
   ·rcases I4 he with h1 | ⟨b,ver,es,off,n,v,k,f,k',f',_,h2,h3⟩
    ·exact .inl h1
    ·exact .inr ⟨_,_,_,_,_,_,h2,h3⟩
  ·cases he
 ·obtain⟨f,args,ts,e⟩:=Jp he;cases e
def TBr (h:List AO)(a:AV):Prop:=∀id ver off,a=.ref id ver off→(∃v,inf h id=some v∧ver≤v)∨h[id]?=some .dead
def Px (all:Array Oper)(i:Nat)(s:AS):Prop:=∀oi t x,all[i]?=some oi→oi.op=.load t x→TBr s.h (s.ev x)
theorem TBr.app {h h':List AO}{a:AV}(ha:TBr h a)(he:Py h h'):TBr h' a:=by
 rintro id ver off rfl;have hlt:id<h.length:=by
  rcases ha id ver off rfl with⟨v,hv,_⟩ |hd
  ·unfold inf at hv
   cases ho:h[id]? with
   |none=>simp[ho]at hv
   |some o=>exact(S_.1 ho).1
  ·exact(S_.1 hd).1
 rcases he with⟨r,rfl⟩ | ⟨b,vb,k,f,k',f',hb,rfl⟩
 ·have e:(h ++ r)[id]?=h[id]?:=T_ hlt
  unfold inf;rw[e];exact ha id ver off rfl
 ·by_cases hi:b=id
  ·subst hi
   rcases ha b ver off rfl with⟨v,hv,hle⟩ |hd
   ·left
    refine⟨vb+1,by unfold inf;rw[W_ hlt];rfl,?_⟩;unfold inf at hv;rw[hb]at hv;cases hv;omega
   ·rw[hb]at hd;cases hd
  ·unfold inf
   rw[L_ hi];exact ha id ver off rfl
theorem cC {P:Program}{strict:Bool}{t:TypeId}{a v:AV}{h h':List AO}(ha:TBr h a)(he:Py h h')(hl:Qy P strict t a h'=some v):Qy P strict t a h=some v:=by
 unfold Qy at hl ⊢;cases hd:Cy P t with
 |none=>simp[hd]at hl
 |some kk =>
  simp only[hd]at hl ⊢;cases a with
  |ptr m f off=>simpa using hl
  |ref id ver off =>
   simp only at hl ⊢;have hlt:id<h.length:=by
    rcases ha id ver off rfl with⟨v,hv,_⟩ |hd
    ·unfold inf at hv
     cases ho:h[id]? with
     |none=>simp[ho]at hv
     |some o=>exact(S_.1 ho).1
    ·exact(S_.1 hd).1
   rcases he with⟨r,rfl⟩ | ⟨b,vb,k,f,k',f',hb,rfl⟩
   ·rw[T_ hlt]at hl;exact hl
   ·by_cases hi:b=id
    ·subst hi
     rw[W_ hlt]at hl;simp only at hl;exfalso;unfold Qf at hl
     split at hl
     ·rename_i hc
      rcases ha b ver off rfl with⟨v,hv,hle⟩ |hd
      ·unfold inf at hv
       rw[hb]at hv;cases hv;omega
      ·rw[hb]at hd;cases hd
     ·cases hl
    ·rw[L_ hi]at hl;exact hl
  |_=>simp at hl
theorem sc {P:Program}{sj si C':Bool}{nj ni:Option Nat}{oj oi:Op}{ρ:Operand→AV}{h h1 h2:List AO}{vj vi:AV}{tl:TypeId}{al:Operand}
  (hl:oi=.load tl al) (hx:(Dg oj).isSome=true) (ha:TBr h (ρ al)) (hj:QF P tok sj C' nj oj ρ h vj h1) (hi:QF P tok si C' ni oi ρ h1 vi h2) :
  QF P tok si C' ni oi ρ h vi h∧h2=h1:=by
 subst hl;have TFI:=Yb hx hj;rcases hi with he |he
 ·replace he:(Qy P si tl (ρ al) h1).map (fun v=>(v,h1))=some (vi,h2):=he
  cases hv:Qy P si tl (ρ al) h1 with
  |none=>simp[hv]at he
  |some x =>
   simp[hv]at he;obtain⟨rfl,rfl⟩:=he;refine⟨.inl ?_,rfl⟩;show(Qy P si tl (ρ al) h).map (fun v=>(v,h))=_;rw[cC ha TFI hv];rfl
 ·obtain⟨f,args,ts,e⟩:=Jp he;cases e
def GT (all:Array Oper)(fl:Nat→Bool)(T:Nat→Prop)(i:Nat)(s:AS):Prop:=fl i=true→∀oi,all[i]?=some oi →
 (∀tl al,oi.op=.load tl al→∀o va off,s.ev al=.ref o va off→T o)∧(∀tx,Dg oi.op=some tx→∀b ver es off n,s.get tx=.osl b ver es off n→¬T b)∧(∀a,oy oi.op=some a→∀o va off,s.ev a=.ref o va off→¬T o)
theorem Sn {P:Program}{t:TypeId}{x y v:AV}{h h':List AO}(he:J5 P t x y h=some (v,h')):(∃r,h'=h ++ r)∨∃b ver es off n ob,x=.osl b ver es off n∧h'=h.set b ob:=by
 unfold J5 at he;cases h1:AL P t with
 |none=>simp[h1]at he
 |some e =>
  obtain⟨e1,s,b⟩:=e;simp only[h1]at he;cases h2:DN s y h with
  |none=>simp[h2]at he
  |some q =>
   obtain⟨m,g⟩:=q;simp only[h2]at he;cases x with
   |osl id ver es off n =>
    simp only at he;cases ho:h[id]? with
    |none=>simp[ho]at he
    |some o =>
     cases o with
     |row v0 k f =>
      simp only[ho]at he;have:=BD he;cases this;exact .inr ⟨id,ver,es,off,n,_,rfl,rfl⟩
     |_=>simp[ho]at he
   |sl n k f q =>
    cases q
    ·simp at he
    ·simp only at he
     split at he
     ·cases he;exact .inl ⟨[],by simp⟩
     have:=BD he;cases this;exact .inl ⟨_,rfl⟩
   |_=>simp at he
theorem iW {P:Program}{strict C':Bool}{nid:Option Nat}{op:Op}{ρ:Operand→AV}{h h':List AO}{v:AV}{t:Nat}(ht:Dg op=some t)(he:QF P tok strict C' nid op ρ h v h') :
  (∃r,h'=h ++ r)∨∃b ver es off n ob,ρ (.tmp t)=.osl b ver es off n∧h'=h.set b ob:=by
 obtain⟨y,ts,rfl⟩:=Cj ht;rcases he with he |he
 ·replace he:(match ts.toList with
   | [t1,t2]=>if t1=t2 then J5 P t1 (ρ (.tmp t)) (ρ y) h else K8 P t1 t2 (ρ (.tmp t)) (ρ y) h
   |_=>none)=some (v,h'):=by
   have e:Jk P strict nid (.call { callee:=.builtin .append,args:=#[.tmp t,y],argTypes:=ts }) ρ h=(match ts.toList with
    | [t1,t2]=>if t1=t2 then J5 P t1 (ρ (.tmp t)) (ρ y) h else K8 P t1 t2 (ρ (.tmp t)) (ρ y) h
    |_=>none):=by
    show(match ([.tmp t,y]:List Operand),ts.toList with
     | [x,y],[t,t']=>if t=t' then J5 P t (ρ x) (ρ y) h else K8 P t t' (ρ x) (ρ y) h
     |_,_=>none)=_
    match ts.toList with
    | []=>rfl
    | [_]=>rfl
    | [_,_]=>rfl
    |_ :: _ :: _ :: _=>rfl
   rw[←e];exact he
  split at he
  ·split at he
   ·exact Sn he
   ·exact Vl he
  ·cases he
 ·obtain⟨f,args,ts,e⟩:=Jp he;cases e
theorem Oi {P:Program}{strict:Bool}{t:TypeId}{a v:AV}{h:List AO}{b:Nat}{ob:AO}(hl:Qy P strict t a h=some v)(hb:∀o va off,a=.ref o va off→o≠b):Qy P strict t a (h.set b ob)=some v:=by
 unfold Qy at hl ⊢;cases hd:Cy P t with
 |none=>simp[hd]at hl
 |some kk =>
  simp only[hd]at hl ⊢;cases a with
  |ptr m f off=>simpa using hl
  |ref id ver off =>
   simp only at hl ⊢;rw[L_ (w_ (hb id ver off rfl))];exact hl
  |_=>simp at hl
theorem za {P:Program}{sj si C':Bool}{nj ni:Option Nat}{oj oi:Op}{ρ:Operand→AV}{h h1 h2:List AO}{vj vi:AV}{T:Nat→Prop}{t:Nat}{tl:TypeId}{al:Operand}
  (hl:oj=.load tl al) (hx:Dg oi=some t) (g1:∀o va off,ρ al=.ref o va off→T o) (g2:∀b ver es off n,ρ (.tmp t)=.osl b ver es off n→¬T b) (hj:QF P tok sj C' nj oj ρ h vj h1) (hi:QF P tok si C' ni oi ρ h1 vi h2) :
  QF P tok si C' ni oi ρ h vi h2∧QF P tok sj C' nj oj ρ h2 vj h2:=by
 subst hl;have hj':Qy P sj tl (ρ al) h=some vj∧h1=h:=by
  rcases hj with he |he
  ·replace he:(Qy P sj tl (ρ al) h).map (fun v=>(v,h))=some (vj,h1):=he
   cases hv:Qy P sj tl (ρ al) h with
   |none=>simp[hv]at he
   |some x=>simp[hv]at he;exact⟨by rw[he.1],he.2.symm⟩
  ·obtain⟨f,args,ts,e⟩:=Jp he;cases e
 obtain⟨hv,rfl⟩:=hj';have TAi:Qy P sj tl (ρ al) h2=some vj:=by
  rcases iW hx hi with⟨r,rfl⟩ | ⟨b,ver,es,off,n,ob,e1,rfl⟩
  ·exact M8 hv
  ·exact Oi hv fun o va TFJ e=>by
    rintro rfl;exact g2 _ _ _ _ _ e1 (g1 _ _ _ e)
 refine⟨hi,.inl ?_⟩;show(Qy P sj tl (ρ al) h2).map (fun v=>(v,h2))=_;rw[TAi];rfl
theorem z8 {P:Program}{sj si C':Bool}{nj ni:Option Nat}{oj oi:Op}{ρ:Operand→AV}{h h1 h2:List AO}{vj vi:AV}{T:Nat→Prop}{a:Operand}{tl:TypeId}{al:Operand}
  (hl:oj=.load tl al) (hx:oy oi=some a) (g1:∀o va off,ρ al=.ref o va off→T o) (g2:∀o va off,ρ a=.ref o va off→¬T o) (hj:QF P tok sj C' nj oj ρ h vj h1) (hi:QF P tok si C' ni oi ρ h1 vi h2) :
  QF P tok si C' ni oi ρ h vi h2∧QF P tok sj C' nj oj ρ h2 vj h2:=by
 subst hl;have hj':Qy P sj tl (ρ al) h=some vj∧h1=h:=by
  rcases hj with he |he
  ·replace he:(Qy P sj tl (ρ al) h).map (fun v=>(v,h))=some (vj,h1):=he
   cases hv:Qy P sj tl (ρ al) h with
   |none=>simp[hv]at he
   |some x=>simp[hv]at he;exact⟨by rw[he.1],he.2.symm⟩
  ·obtain⟨f,args,ts,e⟩:=Jp he;cases e
 obtain⟨hv,rfl⟩:=hj';obtain⟨tt,x,rfl⟩:=Un hx;have TAi:Qy P sj tl (ρ al) h2=some vj:=by
  rcases hi with he |he
  ·replace he:(ZC P si tt (ρ a) (ρ x) h1).map (fun h=>(XZ,h))=some (vi,h2):=he
   cases hs:ZC P si tt (ρ a) (ρ x) h1 with
   |none=>simp[hs]at he
   |some k =>
    simp[hs]at he;obtain⟨_,rfl⟩:=he;unfold ZC at hs
    split at hs
    ·rename_i id ver off hra
     split at hs
     ·rw[←BD hs |> Option.some.inj]
      exact Oi hv fun o va TFJ e=>by
       rintro rfl;exact g2 _ _ _ hra (g1 _ _ _ e)
     ·cases hs
    ·cases hs
  ·obtain⟨f,args,ts,e⟩:=Jp he;cases e
 refine⟨hi,.inl ?_⟩;show(Qy P sj tl (ρ al) h2).map (fun v=>(v,h2))=_;rw[TAi];rfl
theorem SR {P:Program}{strict:Nat→Bool}{C':Bool}{nid:Nat→Option Nat}{all:Array Oper}{j:Nat}{s s1:AS}{oj oi:Oper}(hj:all[j]?=some oj)(h:GStep P tok strict C' nid all j s s1)(ha:∀d,oj.dst=some d→d∉oi.looksAt all):∀x∈oi.op.operands,s1.ev x=s.ev x:=by
 intro x hx;obtain⟨o,ho,h⟩:=h;rw[hj]at ho;cases ho;rcases h with⟨_,_,v,h',_,rfl⟩ | ⟨_,rfl⟩
 ·exact AR ha x hx
 ·exact AR (s:=s) (hh:=s.h) (v:=XZ) ha x hx
theorem GT.move {all:Array Oper}{fl:Nat→Bool}{T:Nat→Prop}{i:Nat}{s t:AS}{oi:Oper}(hi:all[i]?=some oi)(h:∀ x∈oi.op.operands,t.ev x=s.ev x)(g:GT all fl T i s):GT all fl T i t:=by
 intro hf oi' TAn;rw[hi]at TAn;cases TAn;obtain⟨g1,g2,g3⟩:=g hf oi hi;refine⟨fun tl al e o va off hv=>g1 tl al e o va off ?_,fun tx e b ver es off n hv=>g2 tx e b ver es off n ?_,fun a e o va off hv=>g3 a e o va off ?_⟩
 ·rw[←h al (by rw[e];simp[ZBc])];exact hv
 ·obtain⟨y,ts,he⟩:=Cj e
  have:=h (.tmp tx) (by rw[he];simp[ZBc,ZCI]);rw[←show s.ev (.tmp tx)=s.get tx from rfl,←this];exact hv
 ·obtain⟨tt,x,he⟩:=Un e
  rw[←h a (by rw[he];simp[ZBc])];exact hv
def TAa (P:Program)(tok:List Tok)(strict:Nat→Bool)(C':Bool)(nid:Nat→Option Nat)(all:Array Oper)(fl:Nat→Bool)(T:Nat→Prop):List Nat→AS→AS→Prop
 | [],s,s'=>s'=s
 |i :: l,s,s'=>GT all fl T i s∧∃s1,GStep P tok strict C' nid all i s s1∧TAa P tok strict C' nid all fl T l s1 s'
theorem TAc.toT {P:Program}{strict:Nat→Bool}{C':Bool}{nid:Nat→Option Nat}{all:Array Oper}{fl:Nat→Bool}{T:Nat→Prop}(hf:∀i,fl i=false):∀ {l:List Nat} {s s':AS},TAc P tok strict C' nid all l s s'→TAa P tok strict C' nid all fl T l s s'
 | [],_,_,h=>h
 |i :: _,_,_,⟨s1,h1,h2⟩=>⟨fun e=>(by rw[hf i]at e;cases e),s1,h1,h2.toT hf⟩
theorem TAa.eqv {P:Program}{strict:Nat→Bool}{C':Bool}{nid:Nat→Option Nat}{all:Array Oper}{fl:Nat→Bool}{T:Nat→Prop}:∀ {l:List Nat} {s s' t:AS},TAa P tok strict C' nid all fl T l s s'→s.eqv t→∃t',TAa P tok strict C' nid all fl T l t t'∧s'.eqv t'
 | [],s,s',t,h,he=>by cases h;exact⟨t,rfl,he⟩
 |i :: l,s,s',t,⟨h0,s1,h1,h2⟩,he=>by
  obtain⟨t1,g1,e1⟩:=h1.eqv he;obtain⟨t',g2,e2⟩:=TAa.eqv h2 e1;obtain⟨oi,hoi,_⟩:=h1;exact⟨t',⟨h0.move hoi fun x _=>(he.ev x).symm,t1,g1,g2⟩,e2⟩
theorem yT {P:Program}{fl:Nat→Bool}{T:Nat→Prop}{strict:Nat→Bool}{C':Bool}{nid:Nat→Option Nat}{all:Array Oper}{i j:Nat}{s s1 s2:AS}(hn:∀i o,all[i]?=some o→(nid i≠none↔QJ C' o.op=2))
    (TCz:∀id,nid j=some id→nid i≠some id) (hij:∀oj oi,all[j]?=some oj→all[i]?=some oi→E2 strict (fl j) (fl i) (strict j) (strict i) C' all oj oi=true)
    (ui:∀id,nid i=some id→s.h[id]?=some .D_) (hfr:Lw strict all i s) (had:strict i=false→Px all i s) (gj:GT all fl T j s)
    (h1:GStep P tok strict C' nid all j s s1) (h2:GStep P tok strict C' nid all i s1 s2) (gi:GT all fl T i s1) :
    ∃t1 t2,GStep P tok strict C' nid all i s t1∧GStep P tok strict C' nid all j t1 t2∧s2.eqv t2:=by
  obtain⟨oj,hoj,h1⟩:=h1;obtain⟨oi,hoi,h2⟩:=h2;have hm:=hij oj oi hoj hoi;simp only[E2,x_,ZBu,beq_iff_eq]at hm;obtain⟨⟨⟨hap,hb1⟩,hb2⟩,TC0⟩:=hm;obtain⟨a1,a2,a3⟩:=ZCV hap;have TEZ:QJ C' oj.op=0∨QJ C' oi.op=0∨(QJ C' oj.op=1∧QJ C' oi.op=1)∨(QJ C' oi.op=2∧(strict j=true∨LF oj.op=false)) ∨
     (strict i=true∧QJ C' oi.op=1∧(QJ C' oj.op=2∨QJ C' oj.op=3))∨(strict j=true∧QJ C' oj.op=1∧QJ C' oi.op=3)∨(Cx oj.op=true∧Do strict all oi=true)∨(Cx oi.op=true∧(Dg oj.op).isSome=true)∨(((fl j=true∧fl i=true)∧Cx oj.op=true)∧((Dg oi.op).isSome=true∨(oy oi.op).isSome=true)):=by
    rcases TC0 with(((((((h |h) |h) | ⟨h,h'⟩) | ⟨⟨h,h'⟩,h''⟩) | ⟨⟨h,h'⟩,h''⟩) | ⟨h,h'⟩) | ⟨h,h'⟩) |h
    · exact .inl h
    · exact .inr (.inl h)
    · exact .inr (.inr (.inl h))
    · exact .inr (.inr (.inr (.inl ⟨h,by simpa using h'⟩)))
    · exact .inr (.inr (.inr (.inr (.inl ⟨h,h',h''⟩))))
    · exact .inr (.inr (.inr (.inr (.inr (.inl ⟨h,h',h''⟩)))))
    · exact .inr (.inr (.inr (.inr (.inr (.inr (.inl ⟨h,h'⟩))))))
    · exact .inr (.inr (.inr (.inr (.inr (.inr (.inr (.inl ⟨h,h'⟩)))))))
    · exact .inr (.inr (.inr (.inr (.inr (.inr (.inr (.inr h)))))))
  have TDN:∀d,oj.dst=some d→oi.dst≠some d:=a2;have TGA:∀t:AS,({ t with h:=t.h }:AS)=t:=fun _=>rfl
  rcases h1 with⟨g1,u1,v1,h1',e1,rfl⟩ | ⟨g1,rfl⟩
  · rcases h2 with⟨g2,u2,v2,h2',e2,rfl⟩ | ⟨g2,rfl⟩
    · rw[ZG (fun d hd=>a1 d hd)]at g2;have e2':QF P tok (strict i) C' (nid i) oi.op s.ev h1' v2 h2':=by
        have:=CT (ρ':=s.ev) (fun x hx=>AR (fun d hd=>a1 d hd) x hx) (show QF P tok (strict i) C' (nid i) oi.op _ _ v2 h2' from e2)
        simpa using this
      have e1':QF P tok (strict j) C' (nid j) oj.op s.ev s.h v1 h1':=e1;obtain⟨k1,f1,f2,f3⟩:∃k1,QF P tok (strict i) C' (nid i) oi.op s.ev s.h v2 k1∧QF P tok (strict j) C' (nid j) oj.op s.ev k1 v1 h2'∧∀id,nid j=some id→k1[id]?=some .D_:=by
        have old:_→∃k1,QF P tok (strict i) C' (nid i) oi.op s.ev s.h v2 k1∧QF P tok (strict j) C' (nid j) oj.op s.ev k1 v1 h2'∧∀id,nid j=some id→k1[id]?=some .D_ :=
          fun hc=>sd e1' e2' u1 ui TCz (hn j oj hoj).1 (hn i oi hoi).1 (hn i oi hoi).2 (I6 hb1) (I6 hb2) hc
        rcases TEZ with h |h |h |h |h |h | ⟨hl,hf⟩ | ⟨hl,hf⟩ | ⟨⟨⟨hfj,hfi⟩,hl⟩,hf⟩
        · exact old (.inl h)
        · exact old (.inr (.inl h))
        · exact old (.inr (.inr (.inl h)))
        · exact old (.inr (.inr (.inr (.inl h))))
        · exact old (.inr (.inr (.inr (.inr (.inl h)))))
        · exact old (.inr (.inr (.inr (.inr (.inr h)))))
        · cases hxt:Dg oi.op with
          |none=>simp[Do,hxt]at hf
          |some t =>
            obtain⟨q1,q2,r,q3⟩:=gk hl hxt (hfr oi hoi hf t hxt) e1' e2';refine⟨h2',q1,q2,fun id hid=>?_⟩;have:=u1 id hid;rw[q3,T_ (S_.1 this).1];exact this
        · obtain⟨tl,al,TAi⟩:=EP hl;obtain⟨tx,htx⟩:=ZBV.1 hf;obtain⟨yx,tsx,hop⟩:=Cj htx;by_cases hsi:strict i=true
          · exact old (.inr (.inr (.inr (.inr (.inl ⟨hsi,by rw[TAi];rfl,.inr (by rw[hop];rfl)⟩)))))
          · obtain⟨q1,q2⟩:=sc TAi hf (had (by simpa using hsi) oi tl al hoi TAi) e1' e2';subst q2;exact⟨s.h,q1,e1',u1⟩
        · obtain⟨tl,al,TAi⟩:=EP hl;have gi0:GT all fl T i s:=GT.move hoi (fun x hx=>(AR (fun d hd=>a1 d hd) x hx).symm) gi;obtain⟨q1,q2⟩:QF P tok (strict i) C' (nid i) oi.op s.ev s.h v2 h2'∧QF P tok (strict j) C' (nid j) oj.op s.ev h2' v1 h2':=by
            rcases hf with hf |hf
            · obtain⟨tx,htx⟩:=ZBV.1 hf;exact za TAi htx ((gj hfj oj hoj).1 tl al TAi) ((gi0 hfi oi hoi).2.1 tx htx) e1' e2'
            · obtain⟨a,hax⟩:=ZBV.1 hf;exact z8 TAi hax ((gj hfj oj hoj).1 tl al TAi) ((gi0 hfi oi hoi).2.2 a hax) e1' e2'
          refine⟨h2',q1,q2,fun id hid=>?_⟩;exfalso;have:=(hn j oj hoj).1 (by rw[hid];simp);rw[TAi]at this;cases this
      refine⟨({ s with h:=k1 }:AS).E' oi.dst v2,_,⟨oi,hoi,.inl ⟨g2,ui,v2,k1,f1,rfl⟩⟩,⟨oj,hoj,.inl ⟨?_,?_,v1,h2',?_,rfl⟩⟩,?_⟩
      · rw[ZG (fun d hd=>a3 d hd)];exact g1
      · intro id hid;rw[TA0];exact f3 id hid
      · have:=CT (ρ':=(({ s with h:=k1 }:AS).E' oi.dst v2).ev) (fun x hx=>(AR (fun d hd=>a3 d hd) x hx).symm) f2;rw[TA0];exact this
      · exact FJ TDN
    · rw[ZG (fun d hd=>a1 d hd)]at g2;refine⟨s.E' oi.dst XZ,_,⟨oi,hoi,.inr ⟨g2,rfl⟩⟩,⟨oj,hoj,.inl ⟨?_,?_,v1,h1',?_,rfl⟩⟩,?_⟩
      · rw[show s.E' oi.dst XZ=({ s with h:=s.h }:AS).E' oi.dst XZ from rfl,ZG (fun d hd=>a3 d hd)];exact g1
      · intro id hid;rw[TA0];exact u1 id hid
      · have:=CT (ρ':=(({ s with h:=s.h }:AS).E' oi.dst XZ).ev) (fun x hx=>(AR (fun d hd=>a3 d hd) x hx).symm) (show QF P tok (strict j) C' (nid j) oj.op s.ev s.h v1 h1' from e1);rw[TA0];exact this
      · have:=FJ (s:=s) (d:=oj.dst) (e:=oi.dst) (v:=v1) (u:=XZ) (h1:=h1') (h2:=h1') (k1:=s.h) TDN;rw[AH]at this;exact this
  · rcases h2 with⟨g2,u2,v2,h2',e2,rfl⟩ | ⟨g2,rfl⟩
    · rw[show s.E' oj.dst XZ=({ s with h:=s.h }:AS).E' oj.dst XZ from rfl,ZG (fun d hd=>a1 d hd)]at g2;have e2':QF P tok (strict i) C' (nid i) oi.op s.ev s.h v2 h2':=by
        have:=CT (ρ':=s.ev) (fun x hx=>AR (s:=s) (hh:=s.h) (v:=XZ) (fun d hd=>a1 d hd) x hx) (show QF P tok (strict i) C' (nid i) oi.op _ _ v2 h2' from e2)
        simpa using this
      refine⟨({ s with h:=h2' }:AS).E' oi.dst v2,_,⟨oi,hoi,.inl ⟨g2,ui,v2,h2',e2',rfl⟩⟩,⟨oj,hoj,.inr ⟨?_,rfl⟩⟩,?_⟩
      · rw[ZG (fun d hd=>a3 d hd)];exact g1
      · have:=FJ (s:=s) (d:=oj.dst) (e:=oi.dst) (v:=XZ) (u:=v2) (h1:=s.h) (h2:=h2') (k1:=h2') TDN;rw[AH,AH]at this;rw[AH];exact this
    · rw[show s.E' oj.dst XZ=({ s with h:=s.h }:AS).E' oj.dst XZ from rfl,ZG (fun d hd=>a1 d hd)]at g2;refine⟨s.E' oi.dst XZ,_,⟨oi,hoi,.inr ⟨g2,rfl⟩⟩,⟨oj,hoj,.inr ⟨?_,rfl⟩⟩,?_⟩
      · rw[show s.E' oi.dst XZ=({ s with h:=s.h }:AS).E' oi.dst XZ from rfl,ZG (fun d hd=>a3 d hd)];exact g1
      · have:=FJ (s:=s) (d:=oj.dst) (e:=oi.dst) (v:=XZ) (u:=XZ) (h1:=s.h) (h2:=s.h) (k1:=s.h) TDN;rw[AH,AH]at this;exact this
theorem tC {P:Program}{fl:Nat→Bool}{T:Nat→Prop}{strict:Nat→Bool}{C':Bool}{nid:Nat→Option Nat}{all:Array Oper}{i:Nat}(hn:∀i o,all[i]?=some o→(nid i≠none↔QJ C' o.op=2))
  (TCz:∀i j id,nid i=some id→nid j=some id→i=j):∀ (A B:List Nat) {s s':AS},
  (∀j∈A,j≠i∧∀oj oi,all[j]?=some oj→all[i]?=some oi→E2 strict (fl j) (fl i) (strict j) (strict i) C' all oj oi=true)→(∀id,nid i=some id→s.h[id]?=some .D_)→Lw strict all i s→(strict i=false→Px all i s) →
  TAa P tok strict C' nid all fl T (A ++ i :: B) s s'→∃t1 t',GStep P tok strict C' nid all i s t1∧GT all fl T i s∧TAa P tok strict C' nid all fl T (A ++ B) t1 t'∧s'.eqv t'
 | [],B,s,s',_,_,_,_,⟨h0,s1,h1,h2⟩=>⟨s1,s',h1,h0,h2,.B_ _⟩
 |j :: A,B,s,s',hA,hu,hfr,had,⟨h0,s1,h1,h2⟩=>by
  obtain⟨hji,hmv⟩:=hA j (by simp);have hu1:∀id,nid i=some id→s1.h[id]?=some .D_:=by
   intro id hid;obtain⟨oj,hoj,h1'⟩:=h1;rcases h1' with⟨_,_,v,h',he,rfl⟩ | ⟨_,rfl⟩
   ·rw[TA0];exact Id (show QF P tok (strict j) C' (nid j) oj.op s.ev s.h v h' from he) (hu id hid) (fun e=>hji (TCz j i id e hid))
   ·rw[TA0];exact hu id hid
  have TFK:Lw strict all i s1:=by
   intro oi hoi hf t ht;have h0:=hfr oi hoi hf t ht;obtain⟨oj,hoj,h1'⟩:=h1;have hm:=hmv oj oi hoj hoi;simp only[E2,x_]at hm;obtain⟨a1,_,_⟩:=ZCV hm.1.1.1;obtain⟨y,ts,he⟩:=Cj ht;have TAW:(Operand.tmp t)∈oi.op.operands:=by rw[he];simp[ZBc,ZCI]
   have key:∀ (hh:List AO) v,(({ s with h:=hh }:AS).E' oj.dst v).get t=s.get t:=fun hh v=>AR (fun d hd=>a1 d hd) _ TAW
   rcases h1' with⟨_,_,v,h',he,rfl⟩ | ⟨_,rfl⟩
   ·rw[key];exact h0
   ·have:=key s.h XZ
    rw[show({ s with h:=s.h }:AS)=s from rfl]at this;rw[this];exact h0
  have TFL:strict i=false→Px all i s1:=by
   intro hsi oi tl al hoi TAi;have h0:=had hsi oi tl al hoi TAi;obtain⟨oj,hoj,h1'⟩:=h1;have hm:=hmv oj oi hoj hoi;simp only[E2,x_,ZBu,beq_iff_eq]at hm;obtain⟨⟨⟨hap,hb1⟩,hb2⟩,TC0⟩:=hm;obtain⟨a1,_,_⟩:=ZCV hap;have TAW:al∈oi.op.operands:=by rw[TAi];simp[ZBc]
   have key:∀ (hh:List AO) v,(({ s with h:=hh }:AS).E' oj.dst v).ev al=s.ev al:=fun hh v=>AR (fun d hd=>a1 d hd) _ TAW
   have cl:QJ C' oi.op=1:=by rw[TAi];rfl
   rcases h1' with⟨_,_,v,h',he,rfl⟩ | ⟨_,rfl⟩
   ·rw[key,TA0]
    show TBr h' (s.ev al);replace he:QF P tok (strict j) C' (nid j) oj.op s.ev s.h v h':=he;rcases TC0 with(((((((h |h) | ⟨h,h'⟩) | ⟨h,h'⟩) | ⟨⟨h,h'⟩,h''⟩) | ⟨⟨h,h'⟩,h''⟩) | ⟨h,h'⟩) | ⟨h,h'⟩) | ⟨h,h'⟩
    ·obtain⟨rfl,_⟩:=jM h (I6 hb1) he;exact h0
    ·rw[cl]at h;cases h
    ·obtain⟨rfl,_⟩:=dE h he;exact h0
    ·rw[cl]at h;cases h
    ·rw[hsi]at h;cases h
    ·rw[cl]at h'';cases h''
    ·unfold Do at h'
     rw[TAi]at h';simp[Dg]at h'
    ·exact h0.app (Yb h' he)
    ·rw[TAi]at h';simp[Dg,oy]at h'
   ·have:=key s.h XZ
    rw[show({ s with h:=s.h }:AS)=s from rfl]at this;rw[this,TA0];exact h0
  obtain⟨u1,u',g1,gi,g2,g3⟩:=tC hn TCz A B (fun k hk=>hA k (by simp[hk])) hu1 TFK TFL h2;obtain⟨t1,t2,f1,f2,f3⟩:=yT hn (fun id hid e=>hji (TCz j i id hid e)) hmv hu hfr had h0 h1 g1 gi;obtain⟨t',f4,f5⟩:=g2.eqv f3;obtain⟨oj,hoj,_⟩:=id h1;obtain⟨oi,hoi,_⟩:=id f1;have hm:=hmv oj oi hoj hoi;simp only[E2,x_]at hm;obtain⟨a1,_,a3⟩:=ZCV hm.1.1.1;refine⟨t1,t',f1,GT.move hoi (fun x hx=>(SR hoj h1 (fun d hd=>a1 d hd) x hx).symm) gi,⟨GT.move hoj (fun x hx=>SR hoi f1 (fun d hd=>a3 d hd) x hx) h0,t2,f2,f4⟩,g3.trans f5⟩
def CW (C':Bool)(all:Array Oper)(i:Nat):Nat:=((all.toList.take i).filter fun o=>QJ C' o.op == 2).length
def CS (C':Bool)(all:Array Oper)(base:Nat)(i:Nat):Option Nat :=
 match all[i]? with
 |some o=>if QJ C' o.op=2 then some (base+CW C' all i)else none
 |none=>none
def EI (C':Bool)(all:Array Oper):Nat:=(all.toList.filter fun o=>QJ C' o.op == 2).length
def jL (o:Oper)(j:Nat):Bool:=o.after.any fun e=>ZBZ .any e && e.on == j
def It (all:Array Oper):Nat→Nat→Nat→Bool
 |0,_,_=>false
 |f+1,i,j=>match all[i]? with
  |none=>false
  |some o=>o.after.any fun e=>ZBZ .any e && (e.on == j || It all f e.on j)
theorem G5 {all:Array Oper}{TAK:Array Bool}(TCO:∀ k o,all[k]?=some o→TAK.getD k false=true→∀ e∈o.after,ZBZ .any e=true→TAK.getD e.on false=true){j:Nat} :
  ∀ (f i:Nat),(∀o,all[i]?=some o→∀e∈o.after,ZBZ .any e=true→TAK.getD e.on false=true)→It all f i j=true→TAK.getD j false=true
 |0,_,_,h=>by simp[It]at h
 |f+1,i,hr,h=>by
  simp only[It]at h;cases ho:all[i]? with
  |none=>simp[ho]at h
  |some o =>
   simp only[ho]at h;obtain⟨q,hq,hb⟩:=ZCp.1 h;simp only[x_,ZBu,beq_iff_eq]at hb;have hl:=hr o ho _ (ZCn hq) hb.1;rcases hb.2 with e |e
   ·rw[←e];exact hl
   ·exact G5 TCO f _ (fun o' ho'=>TCO _ o' ho' hl) e
def jH (fl strict:Nat→Bool)(C':Bool)(all:Array Oper):Bool :=
 (ZAO all.size).all fun i=>match all[i]? with
  |none=>true
  |some oi=>oi.after.all (fun e=>!Region.binds .any e || decide (e.on<i)) &&
    (ZAO i).all fun j=>jL oi j || (match all[j]? with
     |none=>true
     |some oj=>E2 strict (fl j) (fl i) (strict j) (strict i) C' all oj oi) || It all 6 i j
theorem Nd {C':Bool}{all:Array Oper}{i j:Nat}{o:Oper}(ho:all[i]?=some o)(hc:QJ C' o.op=2)(hij:i<j):CW C' all i<CW C' all j:=by
 unfold CW;have hi:i<all.toList.length:=by simpa using (f_.1 ho).1
 have h1:(all.toList.take (i+1))=all.toList.take i ++ [o]:=by
  rw[ZCa hi];congr 2;have:=(f_.1 ho).2
  simpa using this
 have h2:(all.toList.take (i+1)).Sublist (all.toList.take j):=List.take_sublist_take_left (by omega);have h3:=(h2.filter fun o=>QJ C' o.op == 2).length_le;rw[h1,ZEB,j_]at h3;simp[hc]at h3;omega
theorem OS {C':Bool}{all:Array Oper}{base i j id:Nat}(hi:CS C' all base i=some id)(hj:CS C' all base j=some id):i=j:=by
 unfold CS at hi hj;cases ho:all[i]? with
 |none=>simp[ho]at hi
 |some oi =>
  cases ho':all[j]? with
  |none=>simp[ho']at hj
  |some oj =>
   simp only[ho]at hi;simp only[ho']at hj
   split at hi
   ·split at hj
    ·rename_i c1 c2
     simp at hi hj;rcases Nat.lt_trichotomy i j with h |h |h
     ·have:=Nd ho c1 h;omega
     ·exact h
     ·have:=Nd ho' c2 h;omega
    ·cases hj
   ·cases hi
theorem mz {C':Bool}{all:Array Oper}{i:Nat}{o:Oper}(ho:all[i]?=some o)(hc:QJ C' o.op=2):CW C' all i<EI C' all:=by
 have hi:i<all.size:=(f_.1 ho).1;have:=Nd (j:=all.size) ho hc hi;have e:CW C' all all.size=EI C' all:=by
  unfold CW EI;rw[ZCb (by simp)]
 omega
theorem f8 {C':Bool}{all:Array Oper}{base i:Nat}{o:Oper}(ho:all[i]?=some o):CS C' all base i≠none↔QJ C' o.op=2:=by
 unfold CS;simp only[ho]
 split <;> simp_all
theorem TJ {l:List Nat}{i:Nat}(hi:i∈l)(hs:l.Pairwise (·<·)):∃A B,l=A ++ i :: B∧(∀j∈A,j<i)∧(∀j∈B,i<j):=by
  obtain⟨A,B,rfl⟩:=List.append_of_mem hi;rw[ZDu]at hs;refine⟨A,B,rfl,fun j hj=>hs.2.2 j hj i (by simp),fun j hj=>?_⟩;exact(ZCi.1 hs.2.1).1 j hj
theorem iT {P:Program}{fl:Nat→Bool}{T:Nat→Prop}{strict:Nat→Bool}{C':Bool}{all:Array Oper}{N base:Nat}{ro:Option Nat}{ds:List Deferred}(hN:∀ o∈all.toList,∀ i,o.dst=some i→i<N)(hd:jH fl strict C' all=true){Q:Exit→Act→World→Prop}{s':AS} :
    ∀ (l:List Nat) (TAK:Array Bool) {s:AS} {c:Ctx} {a:Act},TAK.size=all.size→(∀k o,all[k]?=some o→TAK.getD k false=true→∀e∈o.after,ZBZ .any e=true→TAK.getD e.on false=true)→l.Pairwise (·<·)→(∀i,i∈l↔i<all.size∧TAK.getD i true=false)→St N c a s→(∀p∈tok,TAV c p) →
    (∀i∈l,∀id,CS C' all base i=some id→s.h[id]?=some .D_)→(∀m t,rV strict all m t=true→TAK.getD m false=true→Nu (s.get t)) →
    (∃t',TAa P tok strict C' (CS C' all base) all fl T l s t'∧s'.eqv t')→(∀a' c',St N c' a' s'→Ext c c'→Q .normal { a' with defers:=ds } c'.w) →
    wpAnyIn (Ac ro) 0 P .any all Q l.length TAK { a with defers:=ds } c.w:=by
  intro l;generalize hlen:l.length=n;intro TAK s c a hsz TCO hs TAW hst TAk hu hso hex hQ
  induction n generalizing l TAK s c a with
  |zero =>
    obtain rfl:l=[]:=List.eq_nil_of_length_eq_zero hlen;obtain⟨t',h1,h2⟩:=hex;cases h1;refine⟨?_,hQ a c (hst.eqv ⟨h2.n0.symm,h2.hid.symm,h2.len.symm,h2.h.symm,fun i=>(h2.get i).symm⟩) (Ext.refl c)⟩;apply List.eq_nil_iff_forall_not_mem.2;intro i hi;obtain⟨h3,o,ho,_⟩:=mem_ready.1 hi;have:i∈([]:List Nat):=(TAW i).2 ⟨(f_.1 ho).1,h3⟩;simp at this
  |succ n ih =>
    have hd':∀i oi,all[i]?=some oi→(∀e∈oi.after,ZBZ .any e=true→e.on<i)∧∀j,j<i→jL oi j=true∨(∀oj,all[j]?=some oj→E2 strict (fl j) (fl i) (strict j) (strict i) C' all oj oi=true)∨It all 6 i j=true:=by
      intro i oi hoi;have hlt:=(f_.1 hoi).1;have h1:=(ZA5.1 hd) i (by simpa using hlt);simp only[hoi,x_]at h1;refine⟨fun e he hb=>?_,fun j hj=>?_⟩
      · have:=(ZCl.1 h1.1) e he
        simpa [hb]using this
      · have:=(ZA5.1 h1.2) j (by simpa using hj);simp only[ZBu]at this;rcases this with(h |h) |h
        · exact .inl h
        · exact .inr (.inl fun oj hoj=>by simpa [hoj]using h)
        · exact .inr (.inr h)
    have hne:l≠[]:=by rintro rfl;simp at hlen
    refine⟨fun TDy=>?_,fun i hi=>?_⟩
    ·
      exfalso;obtain⟨i,l',rfl⟩:=List.exists_cons_of_ne_nil hne;obtain⟨hlt,hun⟩:=(TAW i).1 (by simp);have hoi:all[i]?=some all[i]:=Array.getElem?_eq_getElem hlt;have:i∈Region.ready .any all TAK:=by
        refine mem_ready.2 ⟨hun,all[i],hoi,fun e he hb=>?_⟩;have TDM:=(hd' i _ hoi).1 e he hb;have TDz:e.on∉i :: l':=by
          intro hm;rcases b_.1 hm with h |h
          · omega
          · have:=(ZCi.1 hs).1 _ h;omega
        have TFM:e.on<TAK.size:=by omega
        have:¬ (e.on<all.size∧TAK.getD e.on true=false):=fun h=>TDz ((TAW e.on).2 h)
        have h2:TAK.getD e.on true≠false:=fun h=>this ⟨by omega,h⟩
        simp[ZAV,TFM]at h2 ⊢;exact h2
      rw[TDy]at this;simp at this
    · obtain⟨hun,oi,hoi,TBL⟩:=mem_ready.1 hi;have hil:i∈l:=(TAW i).2 ⟨(f_.1 hoi).1,hun⟩;obtain⟨A,B,rfl,hA,hB⟩:=TJ hil hs;obtain⟨t',h1,h2⟩:=hex;have hmv:∀j∈A,j≠i∧∀oj oi,all[j]?=some oj→all[i]?=some oi→E2 strict (fl j) (fl i) (strict j) (strict i) C' all oj oi=true:=by
        intro j hj;have hji:=hA j hj;refine⟨by omega,fun oj oi' hoj TAn=>?_⟩;rw[hoi]at TAn;cases TAn;rcases(hd' i oi hoi).2 j hji with h |h |h
        · exfalso;obtain⟨q,hq,hb⟩:=ZCp.1 h;obtain⟨e,he⟩:∃e,e=oi.after[q]:=⟨_,rfl⟩
          rw[←he]at hb;replace he:e∈oi.after:=by rw[he];exact ZCn _
          simp only[x_,beq_iff_eq]at hb;have hl:=TBL e he hb.1;rw[hb.2]at hl;have TCY:=((TAW j).1 (by simp[hj])).2;have hjs:j<TAK.size:=by have:=((TAW j).1 (by simp[hj])).1;omega
          simp[ZAV,hjs]at hl TCY;rw[hl]at TCY;cases TCY
        · exact h oj hoj
        · exfalso;have hl:=G5 TCO 6 i (fun o ho e he hb=>by rw[hoi]at ho;cases ho;exact TBL e he hb) h;have TCY:=((TAW j).1 (by simp[hj])).2;have hjs:j<TAK.size:=by have:=((TAW j).1 (by simp[hj])).1;omega
          simp[ZAV,hjs]at hl TCY;rw[hl]at TCY;cases TCY
      have hfr:Lw strict all i s:=by
        intro oi' TAn hf t ht;rw[hoi]at TAn;cases TAn;unfold Do at hf;rw[ht]at hf;obtain⟨q,hq,hb⟩:=ZCp.1 hf;simp only[x_]at hb;exact hso _ t hb.2 (TBL _ (ZCn hq) hb.1)
      have had:Px all i s:=by
        intro oi' tl al _ _ id ver off hev;have hr:=hst.ev al;rw[hev]at hr;have hH:=hst.heap;generalize a.eval al=vv at hr;cases hr with
        |ref _ _ _ b sz hi hg=>exact .inl ⟨ver,by rw[←hH];exact hi,N' _⟩
        |TAR _ _ _ ad hs =>
          rcases hs with⟨v',hv,hlt⟩ |hd
          · exact .inl ⟨v',by rw[←hH];exact hv,by omega⟩
          · exact .inr (by rw[←hH];exact hd)
      obtain⟨t1,t2,f1,_,f2,f3⟩:=tC (nid:=CS C' all base) (fun i o ho=>f8 ho) (fun i j id hi hj=>OS hi hj) A B hmv (hu i (by simp)) hfr (fun _=>had) h1;have TFN:∀m t,rV strict all m t=true→(TAK.setIfInBounds i true).getD m false=true→Nu (t1.get t):=by
        intro m t hsm hlm;have TCl:=hsm;unfold rV at TCl;cases hom:all[m]? with
        |none=>simp[hom]at TCl
        |some om =>
          simp only[hom,x_,beq_iff_eq]at TCl;obtain⟨⟨⟨⟨p1,p0⟩,p2⟩,p3⟩,p4⟩:=TCl;obtain⟨o',ho',f1'⟩:=f1;rw[hoi]at ho';cases ho';by_cases hmi:m=i
          · subst hmi;rw[hoi]at hom;cases hom;rcases f1' with⟨_,_,v,h',he,rfl⟩ | ⟨hg,_⟩
            · have hv:∃n k f b,v=.sl n k f b:=by
                cases hop:oi.op with
                |buildSlice bt bn bps =>
                  rw[hop]at he;rcases he with he |he
                  · have p0':strict m=false:=by simpa using p0
                    replace he:(if strict m=true then Zv P bt bn (bps.toList.map fun p=>(p.1,s.ev p.2)) s.h else(Ki P bt bn (bps.toList.map fun p=>(p.1,s.ev p.2))).map (fun v=>(v,s.h)))=some (v,h'):=he;rw[M_ (by rw[p0'];decide)]at he;replace he:(Ki P bt bn (bps.toList.map fun p=>(p.1,s.ev p.2))).map (fun v=>(v,s.h))=some (v,h'):=he;cases hb:Ki P bt bn (bps.toList.map fun p=>(p.1,s.ev p.2))with
                    |none=>rw[hb]at he;simp at he
                    |some x =>
                      rw[hb]at he;simp at he;obtain⟨rfl,_⟩:=he;unfold Ki at hb
                      split at hb
                      · split at hb
                        · have:=BD hb;rw[Option.map_eq_some_iff]at this;obtain⟨z,_,rfl⟩:=this;exact⟨_,_,_,true,rfl⟩
                        · cases hb
                      · cases hb
                  · obtain⟨f,args,ts,e⟩:=Jp he;cases e
                |_=>rw[hop]at p1;cases p1
              rw[p3];show Nu (AS.get (AS.put _ t v) t);rw[Ht]
              split
              · exact .inl hv
              · rename_i hno;simp only[true_and,Classical.not_imp]at hno;right;unfold AS.get;rw[N_ hno.1];simp only[K'];rw[k_ (by have:=hno.2;omega)];rfl
            · unfold TAw at hg;cases hgo:oi.guard with
              |none=>simp[hgo]at hg
              |some q=>simp[hgo]at p2
          · rw[getD_set_ne false (w_ hmi)]at hlm;have h0:=hso m t hsm hlm;have TFO:=(f_.1 hoi).1;have:=(ZA5.1 p4) i (by simpa using TFO);simp only[hoi,ZBu,beq_iff_eq,ZDW]at this;have hne:oi.dst≠some t:=by
              rcases this with e |e
              · exact absurd e.symm hmi
              · intro e';rw[e']at e;simp at e
            have key:∀ (hh:List AO) v,(({ s with h:=hh }:AS).E' oi.dst v).get t=s.get t:=fun hh v=>Yw (x:=.tmp t) (fun i hi e=>hne (by rw[hi];cases e;rfl))
            rcases f1' with⟨_,_,v,h',he,rfl⟩ | ⟨_,rfl⟩
            · rw[key];exact h0
            · have:=key s.h XZ;rw[show({ s with h:=s.h }:AS)=s from rfl]at this;rw[this];exact h0
      refine f1.sound hst TAk hN fun a' c' TAu hx=>?_
      have TEa:(A ++ B).length=n:=by simp at hlen ⊢;omega
      refine ih (A ++ B) TEa (TAK.setIfInBounds i true) (by simpa using hsz) ?_ ?_ ?_ TAu (fun p hp=>(TAk p hp).ext hx) ?_ TFN ⟨t2,f2,h2.trans f3⟩ (fun a'' c'' TCN hx'=>hQ a'' c'' TCN (hx.trans hx'))
      · have mono:∀q,TAK.getD q false=true→(TAK.setIfInBounds i true).getD q false=true:=by
          intro q hq;by_cases hqi:q=i
          · have:i<TAK.size:=by have:=(f_.1 hoi).1;omega
            subst hqi;simp[ZAV,this]
          · rw[getD_set_ne false (w_ hqi)];exact hq
        intro q o ho hl e he hb;by_cases hqi:q=i
        · subst hqi;rw[hoi]at ho;cases ho;exact mono _ (TBL e he hb)
        · rw[getD_set_ne false (w_ hqi)]at hl;exact mono _ (TCO q o ho hl e he hb)
      · rw[ZDu]at hs ⊢;exact⟨hs.1,(ZCi.1 hs.2.1).2,fun a ha b hb=>hs.2.2 a ha b (by simp[hb])⟩
      · intro j;have hj0:=TAW j;by_cases hji:j=i
        · subst hji;constructor
          · intro h;exfalso;rcases n_.1 h with h |h
            · have:=hA _ h;omega
            · have:=hB _ h;omega
          · rintro⟨h3,h4⟩;exfalso;have:j<TAK.size:=by omega
            simp[ZAV,this]at h4
        · rw[getD_set_ne true (w_ hji)];rw[←hj0];simp[hji]
      · intro j hj id hid;have hji:j≠i:=by
          rintro rfl;rcases n_.1 hj with h |h
          · have:=hA _ h;omega
          · have:=hB _ h;omega
        have hjl:j∈A ++ i :: B:=by
          rcases n_.1 hj with h |h <;> simp[h]
        obtain⟨o',ho',f1'⟩:=f1;rcases f1' with⟨_,_,v,h',he,rfl⟩ | ⟨_,rfl⟩
        · rw[TA0];exact Id (show QF P tok (strict i) C' (CS C' all base i) o'.op s.ev s.h v h' from he) (hu j hjl id hid) (fun e=>hji (OS hid e))
        · rw[TA0];exact hu j hjl id hid
structure Env where
 P:Program
 fn:Func
 str:List Nat
 hcs:List Nat
 base:Nat
 rnd:Option (Nat×Loop)
 tok:List Tok
 out:Option (Nat×Loop×Loop)
 Q:AV→List AO→Prop
def Ti (D:Nat):Deferred:={ target:=.collected D,args:=#[] }
def Marks (c0 c:Ctx):List Deferred→Prop
 | []=>True
 |d :: ds=>(∃D,d=Ti D∧c0.w.heap.size≤D∧Kept c D (.deferred (some []))∧d∉ds)∧Marks c0 c ds
theorem Marks.ext {m:Nat}{c0 c c':Ctx}(hx:TAd m c c'):∀ {ds:List Deferred},Marks c0 c ds→Marks c0 c' ds
 | [],_=>trivial
 |_ :: _,⟨⟨D,e,h1,h2,h3⟩,h⟩=>⟨⟨D,e,h1,h2.ext hx,h3⟩,h.ext hx⟩
structure Pre (X:Env)(c0 c:Ctx)(ds:List Deferred):Prop where
 ext:TAd X.base c0 c
 tok:∀p∈X.tok,TAV c p∧p.ce.H.length≤X.base
 rnd:∀l r,X.rnd=some (l,r)→Kept c l (.loop r)∧Ar c0 l
 marks:Marks c0 c ds
 out:∀l r r1,X.out=some (l,r,r1)→X.rnd=none→Kept c0 l (.loop r)
theorem Pre.step {X:Env}{c0 c c':Ctx}{ds:List Deferred}(h:Pre X c0 c ds)(hx:TAd X.base c c'):Pre X c0 c' ds :=
 ⟨h.ext.trans hx,fun p hp=>⟨(h.tok p hp).1.TFG (h.tok p hp).2 hx,(h.tok p hp).2⟩,fun l r e=>⟨(h.rnd l r e).1.ext hx,(h.rnd l r e).2⟩,h.marks.ext hx,h.out⟩
def WT (X:Env)(c:Ctx):Prop:=∀l r,X.rnd=some (l,r)→∃st pe,Kept c l (.loop { r with state:=st,pending:=pe })
def HM (l:List Nat)(id i:Nat):Bool:=l.contains id && !l.contains (1000*id+1000+i)
def dJ:List Nat→Nat→Nat→Bool
 | [],_,_=>false
 |c :: l,id,i=>(c/1000000000000 == id+1 && c%1000000000000 == i) || dJ l id i
def DZ:List Nat→Nat→Bool
 | [],_=>true
 |c :: l,id=>if c/1000000000000=id+1 then false else DZ l id
theorem OC {id:Nat}:∀ {l:List Nat},DZ l id=true→∀i,dJ l id i=false
 | [],_,_=>rfl
 |c :: l,h,i=>by
  unfold DZ at h
  split at h
  ·cases h
  ·rename_i hc
   unfold dJ;rw[OC h i];simp[hc]
def tV (N:Nat)(ops:Array Oper):Bool:=ops.all fun o=>match o.dst with |some d=>decide (d<N) |none=>true
def QO (N:Nat)(str hcs:List Nat):Code→Bool
 | .region id ops draw=>tV N ops && (!draw || jH (dJ str id) (HM str id) (hcs.contains id) ops)
 | .seq a b=>QO N str hcs a && QO N str hcs b
 | .cond _ a b=>QO N str hcs a && QO N str hcs b
 | .block _ b=>QO N str hcs b
 | .loop b=>QO N str hcs b
 | .scope b=>QO N str hcs b
 | .rangeFunc ..=>true
 | .ret=>true
 |_=>true
def ZJ (N:Nat)(str hcs:List Nat):Item→Bool
 | .code c=>QO N str hcs c
 | .inBlock _=>true
 | .inLoop c=>QO N str hcs c
 | .inScope c=>QO N str hcs c
 | .beginRound=>true
 |_=>false
def DJ (X:Env)(k:List Item):Prop:=∀i∈k,ZJ X.fn.ntmps X.str X.hcs i=true
def ov (X:Env)(b:Frame)(ds:List Deferred)(fr:Frame)(w:World)(v:Value):Prop :=
 match X.rnd with
 |none=>fr.fn=b.fn∧fr.leaving X.P w (.returned v)
 |some _=>match X.out with
  |none=>∃a':Act,fr=b.atR { a' with defers:=ds } []
  |some (_,_,r1)=>∃ (a':Act) (k':List Item),fr=b.atR { a' with defers:=ds } (.code (r1.pending.getD .ret) :: k')∧∀id,r1.pending=some (.exit id)→exitTo id k'=none
def V1 (X:Env)(c0 c':Ctx):Prop:=match X.out,X.rnd with
 |some (l,r,r1),none=>Kept c' l (.loop r1)∧TAd X.base c0 ⟨c'.w.putObj l (.loop r),c'.S,c'.γ,c'.H⟩
 |_,_=>TAd X.base c0 c'
theorem GC {X:Env}(h:X.out=none){c0 c':Ctx}:V1 X c0 c'=TAd X.base c0 c':=by unfold V1;rw[h]
theorem DH {X:Env}{q:Nat×Loop}(h:X.rnd=some q){c0 c':Ctx}:V1 X c0 c'=TAd X.base c0 c':=by
 unfold V1;rw[h];cases X.out <;> rfl
def Run (X:Env)(k:List Item)(s:AS):Prop :=
 X.P.follows .mixedOrders=true→DJ X k→(X.rnd.isSome=true→X.str.contains 888888=true)→∀ (c0 c:Ctx) (a:Act) (ds:List Deferred),St X.fn.ntmps c a s→Pre X c0 c ds →
 ∀ (b:Frame) (cs:List Frame),X.P.funcs[b.fn]?=some X.fn→b.kind=.normal→b.roundOf=X.rnd.map (·.1) →
  ∃v fr r c',Steps X.P (lone (b.atR { a with defers:=ds } k) cs c.w) (lone fr cs c'.w)∧ov X b ds fr c'.w v∧Rep c' v r∧I' c'∧V1 X c0 c'∧WT X c'∧X.Q r c'.H
theorem Run.eqv {X:Env}{k:List Item}{s t:AS}(h:Run X k s)(he:t.eqv s):Run X k t :=
 fun hm hok hr c0 c a ds hst=>h hm hok hr c0 c a ds (hst.eqv he)
theorem Run.step {X:Env}{k k':List Item}{s:AS}(h:Run X k' s)(hok:DJ X k→DJ X k')
  (hs:∀ (c:Ctx) (a:Act) (ds:List Deferred) (b:Frame) (cs:List Frame),St X.fn.ntmps c a s→step X.P (lone (b.atR { a with defers:=ds } k) cs c.w)=.next (lone (b.atR { a with defers:=ds } k') cs c.w)):Run X k s:=by
 intro hm ho hr c0 c a ds hst hp b cs hf hk hb;obtain⟨v,fr,r,c',h1,h2⟩:=h hm (hok ho) hr c0 c a ds hst hp b cs hf hk hb;exact⟨v,fr,r,c',.head (hs c a ds b cs hst) h1,h2⟩
theorem Qz {X:Env}{i:Item}{k:List Item}:DJ X (i :: k)↔ZJ X.fn.ntmps X.str X.hcs i=true∧DJ X k:=by
 unfold DJ;simp
theorem mU {X:Env}{k:List Item}{s:AS}(h:Run X k s):Run X (.code .skip :: k) s:=h.step (fun ho=>(Qz.1 ho).2) fun _ _ _ _ _ _=>stepR_skip
theorem fQ {X:Env}{l:Nat}{k:List Item}{s:AS}(h:Run X k s):Run X (.code (.label l) :: k) s:=h.step (fun ho=>(Qz.1 ho).2) fun _ _ _ _ _ _=>stepR_label
theorem U6 {X:Env}{id:Nat}{k:List Item}{s:AS}(h:Run X k s):Run X (.inBlock id :: k) s:=h.step (fun ho=>(Qz.1 ho).2) fun _ _ _ _ _ _=>stepR_inBlock
theorem Oc {P:Program}{b:Frame}{a:Act}{k:List Item}{cs:List Frame}{w:World}{c:Code}:step P (lone (b.atR a (.inScope c :: k)) cs w)=.next (lone (b.atR a k) cs w) :=
 step_lone_go (by simp[stepG,stepG.exec,Frame.atR])
theorem Uo {P:Program}{b:Frame}{a:Act}{k:List Item}{cs:List Frame}{w:World}{c:Code}:step P (lone (b.atR a (.code (.scope c) :: k)) cs w)=.next (lone (b.atR a (.code c :: .inScope c :: k)) cs w) :=
 step_lone_go (by simp[stepG,stepG.exec,Frame.atR])
theorem U7 {X:Env}{c:Code}{k:List Item}{s:AS}(h:Run X k s):Run X (.inScope c :: k) s:=h.step (fun ho=>(Qz.1 ho).2) fun _ _ _ _ _ _=>Oc
theorem rL {X:Env}{x y:Code}{k:List Item}{s:AS}(h:Run X (.code x :: .code y :: k) s):Run X (.code (.seq x y) :: k) s :=
 h.step (fun ho=>by obtain⟨h1,h2⟩:=Qz.1 ho;simp[ZJ,QO]at h1;exact Qz.2 ⟨h1.1,Qz.2 ⟨h1.2,h2⟩⟩) fun _ _ _ _ _ _=>stepR_seq
theorem fO {X:Env}{id:Nat}{x:Code}{k:List Item}{s:AS}(h:Run X (.code x :: .inBlock id :: k) s):Run X (.code (.block id x) :: k) s :=
 h.step (fun ho=>by obtain⟨h1,h2⟩:=Qz.1 ho;exact Qz.2 ⟨by simpa [ZJ,QO]using h1,Qz.2 ⟨rfl,h2⟩⟩) fun _ _ _ _ _ _=>stepR_block
theorem fS {X:Env}{x:Code}{k:List Item}{s:AS}(h:Run X (.code x :: .inScope x :: k) s):Run X (.code (.scope x) :: k) s :=
 h.step (fun ho=>by obtain⟨h1,h2⟩:=Qz.1 ho;exact Qz.2 ⟨by simpa [ZJ,QO]using h1,Qz.2 ⟨by simpa [ZJ,QO]using h1,h2⟩⟩) fun _ _ _ _ _ _=>Uo
theorem FN {X:Env}{x:Code}{k:List Item}{s:AS}(h:Run X (.code x :: .inLoop x :: k) s):Run X (.code (.loop x) :: k) s :=
 h.step (fun ho=>by obtain⟨h1,h2⟩:=Qz.1 ho;exact Qz.2 ⟨by simpa [ZJ,QO]using h1,Qz.2 ⟨by simpa [ZJ,QO]using h1,h2⟩⟩) fun _ _ _ _ _ _=>stepR_loop
theorem Ed {X:Env}{x:Code}{k:List Item}{s:AS}(h:Run X (.code x :: .inLoop x :: k) s):Run X (.inLoop x :: k) s :=
 h.step (fun ho=>by obtain⟨h1,h2⟩:=Qz.1 ho;exact Qz.2 ⟨by simpa [ZJ,QO]using h1,Qz.2 ⟨h1,h2⟩⟩) fun _ _ _ _ _ _=>stepR_inLoop
theorem mO {X:Env}{o:Operand}{x y:Code}{k:List Item}{s:AS}{t:Bool}(ho:s.ev o=.bool t)(h:Run X (.code (if t then x else y) :: k) s):Run X (.code (.cond o x y) :: k) s :=
 h.step (fun ho=>by obtain⟨h1,h2⟩:=Qz.1 ho;simp[ZJ,QO]at h1;refine Qz.2 ⟨?_,h2⟩;cases t <;> simp[ZJ,h1]) fun c a ds b cs hst=>stepR_cond (by
  show a.eval o=_;have:=hst.ev o;rw[ho]at this;generalize a.eval o=q at this ⊢;cases this;rfl)
theorem fP {X:Env}{o:Operand}{x y:Code}{k:List Item}{s:AS}(ho:s.ev o=.TAg)(hx:Run X (.code x :: k) s) (hy:Run X (.code y :: k) s):Run X (.code (.cond o x y) :: k) s:=by
 intro hm hok hr c0 c a ds hst hp b cs hf hk hb;have hv:=hst.ev o;rw[ho]at hv;have hq:∃t,a.eval o=.bool t:=by
  generalize a.eval o=q at hv;cases hv;exact⟨_,rfl⟩
 obtain⟨t,ht⟩:=hq;obtain⟨h1,h2⟩:=Qz.1 hok;simp[ZJ,QO]at h1;have ht':({ a with defers:=ds }:Act).eval o=.bool t:=ht;cases t
 ·obtain⟨v,fr,r,c',h3,h4⟩:=hy hm (Qz.2 ⟨by simp[ZJ,h1],h2⟩) hr c0 c a ds hst hp b cs hf hk hb
  exact⟨v,fr,r,c',.head (stepR_cond ht') h3,h4⟩
 ·obtain⟨v,fr,r,c',h3,h4⟩:=hx hm (Qz.2 ⟨by simp[ZJ,h1],h2⟩) hr c0 c a ds hst hp b cs hf hk hb
  exact⟨v,fr,r,c',.head (stepR_cond ht') h3,h4⟩
theorem Gi {id:Nat}:∀ {k k':List Item},exitTo id k=some k'→∀i∈k',i∈k
 | [],k',h=>by simp[exitTo]at h
 |i :: k,k',h=>by
  intro j hj;cases i <;> simp only[exitTo]at h
  case inBlock id' =>
   split at h
   ·cases h;exact ZBq _ hj
   ·exact ZBq _ (Gi h j hj)
  all_goals exact ZBq _ (Gi h j hj)
theorem mR {X:Env}{id:Nat}{k k':List Item}{s:AS}(hk:exitTo id k=some k')(h:Run X k' s):Run X (.code (.exit id) :: k) s :=
 h.step (fun ho i hi=>ho i (ZBq _ (Gi hk i hi))) fun _ _ _ _ _ _=>stepR_exit hk
def A8 (P:Program)(s:AS):ResultVar→Option AV
 | .tmp t=>some (s.get t)
 | .cell a t=>Qy P false t (s.get a) s.h
def JL (P:Program)(s:AS):List ResultVar→Option (List AV)
 | []=>some []
 |r :: l=>match A8 P s r,JL P s l with
  |some v,some vs=>some (v :: vs)
  |_,_=>none
def BO:List AV→AV
 | [v]=>v
 |l=>.tup l
def Au (P:Program)(fn:Func)(s:AS):Option AV:=(JL P s fn.results.toList).map BO
theorem O2 {P:Program}{b:Bool}{t:TypeId}{a v:AV}{h:List AO}(hl:Qy P b t a h=some v):a.TAl=true:=by
 unfold Qy at hl
 split at hl
 ·cases hl
 ·split at hl
  ·rfl
  ·rfl
  ·cases hl
theorem G6 {P:Program}{N:Nat}{c:Ctx}{a:Act}{s:AS}(hst:St N c a s):∀ (l:List ResultVar) (vs:List AV),JL P s l=some vs →
  ∃xs:List Value,(l.mapM (m:=Sem) fun
   | .tmp t=>pure (a.tmps.getD t undef)
   | .cell ad t=>do loadVar t (←asAddr (a.tmps.getD ad undef))).run P c.w=.ok xs c.w∧TAH c xs.toArray vs
 | [],vs,h=>by
  simp[JL]at h;subst h;exact⟨[],rfl,rfl,by simp⟩
 |r :: l,vs,h=>by
  simp only[JL]at h
  split at h
  ·rename_i v vs' h1 h2
   cases h;obtain⟨xs,h3,h4⟩:=G6 hst l vs' h2;have one:∃x,((match r with
     | .tmp t=>pure (a.tmps.getD t undef)
     | .cell ad t=>do loadVar t (←asAddr (a.tmps.getD ad undef)):Sem Value)).run P c.w=.ok x c.w∧Rep c x v:=by
    cases r with
    |tmp t=>simp[A8]at h1;subst h1;exact⟨_,rfl,hst.TAQ t⟩
    |cell ad t =>
     simp only[A8]at h1;have hp:=O2 h1;rw[←hst.heap]at h1;obtain⟨y,g1,g2⟩:=IG (P:=P) hst.H_ (hst.TAQ ad) h1;obtain⟨b,hb⟩:=(hst.TAQ ad).TAl hp;rw[hb]at g1;refine⟨y,?_,g2⟩;simp only[hb,asAddr,ZAv,Sem.run_pure,ZAa]
     simpa [Instr.loadAt,Instr.sureAddr]using g1
   obtain⟨x,g1,g2⟩:=one;refine⟨x :: xs,?_,by simp[h4.1.symm],fun j hj=>?_⟩
   ·simp only[List.mapM_cons,ZAv]
    rw[g1];simp only[ZAa];rw[h3];rfl
   ·cases j with
    |zero=>simpa using g2
    |succ j =>
     have:=h4.2 j (by simpa using hj)
     simpa using this
  ·cases h
theorem fI {P:Program}{fn:Func}{N:Nat}{c:Ctx}{a:Act}{s:AS}(hst:St N c a s){v:AV}(h:Au P fn s=some v):∃x,(results fn a.tmps).run P c.w=.ok x c.w∧Rep c x v:=by
 unfold Au at h;cases hl:JL P s fn.results.toList with
 |none=>simp[hl]at h
 |some vs =>
  simp[hl]at h;subst h;obtain⟨xs,h1,h2⟩:=G6 hst _ vs hl;have hm:(fn.results.mapM (m:=Sem) fun
   | .tmp t=>pure (a.tmps.getD t undef)
   | .cell ad t=>do loadVar t (←asAddr (a.tmps.getD ad undef))).run P c.w=.ok xs.toArray c.w:=by
   rw[←ZDg (xs:=fn.results),List.mapM_toArray];simp only[Sem.run_map];rw[h1];rfl
  have key:(results fn a.tmps).run P c.w=.ok (if h:xs.toArray.size=1 then xs.toArray[0]else .tuple xs.toArray) c.w:=by
   unfold results;rw[ZAv]
   erw[hm]
   rfl
  rw[key];clear key hm h1 hl;have hlen:xs.length=vs.length:=by simpa using h2.1
  match xs,vs,hlen,h2 with
  | [x],[v],_,h2 =>
   refine⟨x,by simp,?_⟩;have:=h2.2 0 (by simp)
   simpa [BO]using this
  | [],[],_,_=>exact⟨.tuple #[],by simp,.tup _ _ rfl (by simp)⟩
  |x :: y :: xs,v :: u :: vs,_,h2=>exact⟨.tuple (x :: y :: xs).toArray,by simp,.tup _ _ h2.1 h2.2⟩
def mI (r:Loop):Bool:=match r.pending with |none=>true |some .ret=>true |_=>false
def TU (X:Env)(s:AS):Option AV:=match X.rnd,X.out with |none,none=>Au X.P X.fn s |some _,some (_,_,r1)=>(match mI r1 with |true=>some .any |false=>none) |_,_=>none
def wW (X:Env)(s:AS):Option AV:=match X.rnd,X.out with |none,none=>Au X.P X.fn s |some _,none=>some .any |_,_=>none
def TAC (X:Env)(s:AS):Prop:=∃v,TU X s=some v∧X.Q v s.h
def TBT (X:Env)(s:AS):Prop:=∃v,wW X s=some v∧X.Q v s.h
theorem TAC.res {X:Env}{s:AS}(h:TAC X s)(hn:X.rnd=none):X.out=none∧∃v,Au X.P X.fn s=some v∧X.Q v s.h:=by
 obtain⟨v,h1,h2⟩:=h;unfold TU at h1;rw[hn]at h1;cases ho:X.out with
 |none=>rw[ho]at h1;exact⟨rfl,v,h1,h2⟩
 |some q=>rw[ho]at h1;cases h1
theorem fJ {r:Loop}(h:mI r=true):r.pending.getD .ret=.ret∧∀id,r.pending≠some (.exit id):=by
 unfold mI at h;cases hp:r.pending with
 |none=>exact⟨rfl,fun id=>by simp⟩
 |some c =>
  rw[hp]at h;cases c <;> first |exact⟨rfl,fun id=>by simp⟩ |cases h
theorem TAC.rnd {X:Env}{s:AS}(h:TAC X s){l:Nat×Loop}(hn:X.rnd=some l):(∃q,X.out=some q∧mI q.2.2=true)∧X.Q .any s.h:=by
 obtain⟨v,h1,h2⟩:=h;unfold TU at h1;rw[hn]at h1;cases ho:X.out with
 |none=>rw[ho]at h1;cases h1
 |some q =>
  obtain⟨q1,q2,q3⟩:=q;rw[ho]at h1;simp only at h1;cases hr:mI q3 with
  |true=>rw[hr]at h1;cases h1;exact⟨⟨_,rfl,hr⟩,h2⟩
  |false=>rw[hr]at h1;cases h1
theorem TBT.res {X:Env}{s:AS}(h:TBT X s)(hn:X.rnd=none):X.out=none∧∃v,Au X.P X.fn s=some v∧X.Q v s.h:=by
 obtain⟨v,h1,h2⟩:=h;unfold wW at h1;rw[hn]at h1;cases ho:X.out with
 |none=>rw[ho]at h1;exact⟨rfl,v,h1,h2⟩
 |some q=>rw[ho]at h1;cases h1
theorem TBT.rnd {X:Env}{s:AS}(h:TBT X s){l:Nat×Loop}(hn:X.rnd=some l):X.out=none∧X.Q .any s.h:=by
 obtain⟨v,h1,h2⟩:=h;unfold wW at h1;rw[hn]at h1;cases ho:X.out with
 |none=>rw[ho]at h1;cases h1;exact⟨rfl,h2⟩
 |some q=>rw[ho]at h1;cases h1
theorem SU {m:Nat}{c0 c:Ctx}{w':World}{l:Nat}(hx:TAd m c0 c)(hl:c0.w.heap.size≤l)(hsz:w'.heap.size=c.w.heap.size)(TAm:∀b,b≠l→w'.heap[b]?=c.w.heap[b]?)
  (hos:w'.os=c.w.os) (TCJ:w'.tape=c.w.tape) (TBj:w'.output=c.w.output):TAd m c0 ⟨w',c.S,c.γ,c.H⟩ :=
 ⟨fun id o hid ho=>hx.hle id o hid ho,hx.TAf,hx.TA6,hx.TAy,fun b hb hn=>(TAm b (by omega)).trans (hx.same b hb hn),by rw[hsz];exact hx.size,hos.trans hx.os,TCJ.trans hx.tape,TBj.trans hx.output⟩
theorem mD {c:Ctx}{w':World}{l:Nat}(hS:¬ c.S l)(TAm:∀ b,b≠l→w'.heap[b]?=c.w.heap[b]?){v:Value}{a:AV}(h:Rep c v a):Rep ⟨w',c.S,c.γ,c.H⟩ v a :=
 h.ext (fun _ h=>h) (fun b hb=>TAm b (fun e=>hS (e▸hb))) (HLe.refl c)
theorem FB {c:Ctx}{w':World}{l:Nat}(hr:I' c)(hS:¬ c.S l)(hO:¬ Ar c l)(hsz:c.w.heap.size≤w'.heap.size)(TAm:∀b,b≠l→b<c.w.heap.size→w'.heap[b]?=c.w.heap[b]?):I' ⟨w',c.S,c.γ,c.H⟩:=by
 have TAb:∀ {v:Value} {a:AV},Rep c v a→Rep ⟨w',c.S,c.γ,c.H⟩ v a:=fun h=>h.ext (fun _ h=>h) (fun b hb=>TAm b (fun e=>hS (e▸hb)) (hr.bound b hb)) (HLe.refl c)
 refine⟨?_,?_,?_,hr.inj,fun b hb=>Nat.lt_of_lt_of_le (hr.bound b hb) hsz⟩
 ·intro id v n f ho
  rcases hr.row id v n f ho with h | ⟨b,sz,cs,el,h1,h2,h3,h4,h5,h6⟩
  ·exact .inl h
  ·exact .inr ⟨b,sz,cs,el,h1,(TAm b (fun e=>hO (e▸⟨id,_,sz,ho,rfl,h1⟩)) (f_.1 h2).1).trans h2,h3,h4,h5,fun j hj=>TAb (h6 j hj)⟩
 ·intro id v n f ho
  rcases hr.con id v n f ho with h | ⟨b,sz,cs,el,fr,h1,h2,h3,h4,h5,h6⟩
  ·exact .inl h
  ·exact .inr ⟨b,sz,cs,el,fr,h1,(TAm b (fun e=>hS (e▸h5)) (f_.1 h2).1).trans h2,h3,h4,h5,fun j hj=>TAb (h6 j hj)⟩
 ·intro id k g ho
  obtain⟨b,sz,es,cl,h1,h2,h3,h4⟩:=hr.map id k g ho;exact⟨b,sz,es,cl,h1,(TAm b (fun e=>hO (e▸⟨id,_,sz,ho,rfl,h1⟩)) (f_.1 h2).1).trans h2,h3,h4.ext fun v a hv=>TAb hv⟩
theorem Kept.TCQ {c:Ctx}{w':World}{l l':Nat}{o:Obj}(h:Kept c l' o)(hne:l'≠l)(TAm:∀b,b≠l→w'.heap[b]?=c.w.heap[b]?):Kept ⟨w',c.S,c.γ,c.H⟩ l' o :=
 ⟨(TAm l' hne).trans h.1,h.2.1,h.2.2⟩
theorem Jt (w:World)(l:Nat)(o:Obj):∀b,b≠l→(w.putObj l o).heap[b]?=w.heap[b]?:=fun b hb=>World.putObj_heap_other hb
theorem St.TCQ {N:Nat}{c:Ctx}{a:Act}{s:AS}(h:St N c a s){l:Nat}{o o':Obj}(hk:Kept c l o):St N ⟨c.w.putObj l o',c.S,c.γ,c.H⟩ a s :=
 ⟨h.size,h.defers,fun i=>mD hk.2.1 (Jt c.w l o') (h.TAQ i),h.heap,FB h.H_ hk.2.1 hk.2.2 (by simp) fun b hb _=>Jt c.w l o' b hb⟩
theorem Wl {X:Env}(hn:X.rnd=none)(c:Ctx):WT X c:=fun l r e=>by rw[hn]at e;cases e
theorem Nh {X:Env}{c:Ctx}(h:∀l r,X.rnd=some (l,r)→Kept c l (.loop r)):WT X c:=fun l r e=>⟨r.state,r.pending,h l r e⟩
theorem EQ {X:Env}{c0:Ctx}{s:AS}{a:Act}{b:Frame}{cs:List Frame}(h:∃ v,Au X.P X.fn s=some v∧X.Q v s.h)(hf:X.P.funcs[b.fn]?=some X.fn)(hk:b.kind=.normal)(hn:X.rnd=none) :
  ∀ (ds:List Deferred) (c:Ctx) (fr:Frame),St X.fn.ntmps c a s→TAd X.base c0 c→Marks c0 c ds →
   fr.fn=b.fn→fr.tmps=a.tmps→fr.mode=.returning→fr.kind=.normal→fr.defers=ds →
   ∃v fr' r c',Steps X.P (lone fr cs c.w) (lone fr' cs c'.w)∧(fr'.fn=b.fn∧fr'.leaving X.P c'.w (.returned v))∧Rep c' v r∧I' c'∧TAd X.base c0 c'∧WT X c'∧X.Q r c'.H
 | [],c,fr,hst,hx,hm,g1,g2,g3,g4,g5=>by
  obtain⟨r,h1,h2⟩:=h;obtain⟨x,h3,h4⟩:=fI hst h1;exact⟨x,fr,r,c,.refl _ _,⟨g1,g3,g5,g4,X.fn,by rw[g1];exact hf,by rw[g2];exact h3⟩,h4,hst.H_,hx,Wl hn c,by rw[hst.heap];exact h2⟩
 |d :: ds,c,fr,hst,hx,hm,g1,g2,g3,g4,g5=>by
  obtain⟨⟨D,rfl,hD,hkD,TDz⟩,hm⟩:=hm;have TCk:=step_collected (P:=X.P) (fr:=fr) (cs:=cs) (w:=c.w) (by rw[g3];simp) g5 rfl (run_takeDeferred hkD.1);have hms:Marks c0 ⟨c.w.putObj D (.deferred none),c.S,c.γ,c.H⟩ ds:=by
   have:∀ds:List Deferred,Ti D∉ds→Marks c0 c ds→Marks c0 ⟨c.w.putObj D (.deferred none),c.S,c.γ,c.H⟩ ds:=by
    intro ds
    induction ds with
    |nil=>exact fun _ _=>trivial
    |cons d ds ih =>
     rintro hn ⟨⟨D',rfl,q1,q2,q3⟩,q⟩;refine⟨⟨D',rfl,q1,q2.TCQ (fun e=>hn (by rw[e];simp)) (Jt c.w D _),q3⟩,ih (fun hh=>hn (by simp[hh])) q⟩
   exact this ds TDz hm
  obtain⟨v,fr',r,c',k1,k2⟩:=EQ h hf hk hn ds ⟨c.w.putObj D (.deferred none),c.S,c.γ,c.H⟩ { fr with defers:=ds } (hst.TCQ hkD)
   (SU hx hD (by simp) (Jt c.w D _) rfl rfl rfl) hms g1 g2 g3 g4 rfl
  exact⟨v,fr',r,c',.head TCk k1,k2⟩
theorem rK {X:Env}{k:List Item}{s:AS}(h:TAC X s):Run X (.code .ret :: k) s:=by
 intro _ ho hr c0 c a ds hst hp b cs hf hk hb;cases hrn:X.rnd with
 |none =>
  rw[hrn,ZEE]at hb;obtain⟨v,fr',r,c',k1,k2,k3,k4,k5,k6⟩:=EQ (cs:=cs) (h.res hrn).2 hf hk hrn ds c { b.atR { a with defers:=ds } (.code .ret :: k)with mode:=.returning } hst hp.ext hp.marks rfl rfl rfl hk rfl;exact⟨v,fr',r,c',.head (stepR_ret hb) k1,by unfold ov;rw[hrn];exact k2,k3,k4,by rw[GC (h.res hrn).1];exact k5,k6⟩
 |some l =>
  obtain⟨⟨⟨q1,q2,q3⟩,hq,hl⟩,hQ⟩:=h.rnd hrn;obtain⟨hl1,hl2⟩:=fJ hl;exact⟨undef,_,.any,c,.refl _ _,by unfold ov;rw[hrn,hq];exact⟨a,k,by rw[hl1],fun id e=>absurd e (hl2 id)⟩,.any _,hst.H_,by rw[DH hrn];exact hp.ext,Nh (fun l' r' e=>(hp.rnd l' r' e).1),by rw[hst.heap];exact hQ⟩
theorem fR {X:Env}{id:Nat}{k:List Item}{s:AS}{q:Nat×Loop}{l:Nat}{r r1:Loop}(hrn:X.rnd=some q)(ho:X.out=some (l,r,r1)) (hp:r1.pending=some (.exit id)) (hk:exitTo id k=none) (hQ:X.Q .any s.h):Run X (.code (.exit id) :: k) s:=by
 intro _ _ hr c0 c a ds hst TEb b cs hf hkd hb;exact⟨undef,_,.any,c,.refl _ _,by unfold ov;rw[hrn,ho];exact⟨a,k,by rw[hp];rfl,fun i e=>by rw[hp]at e;cases e;exact hk⟩,.any _,hst.H_,by rw[DH hrn];exact TEb.ext,Nh (fun l' r' e=>(TEb.rnd l' r' e).1),by rw[hst.heap];exact hQ⟩
theorem rI {X:Env}{s:AS}(h:TBT X s):Run X [] s:=by
 intro _ ho hr c0 c a ds hst hp b cs hf hk hb;cases hrn:X.rnd with
 |none =>
  rw[hrn,ZEE]at hb;obtain⟨v,fr',r,c',k1,k2,k3,k4,k5,k6⟩:=EQ (cs:=cs) (h.res hrn).2 hf hk hrn ds c { b.atR { a with defers:=ds } []with mode:=.returning } hst hp.ext hp.marks rfl rfl rfl hk rfl;exact⟨v,fr',r,c',.head (stepR_end hb) k1,by unfold ov;rw[hrn];exact k2,k3,k4,by rw[GC (h.res hrn).1];exact k5,k6⟩
 |some l =>
  obtain⟨hq,hQ⟩:=h.rnd hrn;exact⟨undef,_,.any,c,.refl _ _,by unfold ov;rw[hrn,hq];exact⟨a,rfl⟩,.any _,hst.H_,by rw[DH hrn];exact hp.ext,Nh (fun l' r' e=>(hp.rnd l' r' e).1),by rw[hst.heap];exact hQ⟩
structure Md where
 all:Array Oper
 strict:Nat→Bool
 C':Bool
 base:Option Nat
 i:Nat
 nx:Nat
def Md.nid (M:Md):Nat→Option Nat:=match M.base with
 |none=>fun _=>none
 |some b=>CS M.C' M.all b
def Md.next (M:Md)(o:Oper):Md:={ M with i:=M.i+1,nx:=match M.base with |none=>M.nx |some _=>if QJ M.C' o.op=2 then M.nx+1 else M.nx }
def Md.ok (M:Md)(rest:List Oper):Prop:=M.all.toList.drop M.i=rest∧∀b,M.base=some b→M.nx=b+CW M.C' M.all M.i
def TBF (X:Env)(M:Md)(rest:List Oper)(k:List Item)(s:AS):Prop :=
 ∃s',TAc X.P X.tok M.strict M.C' M.nid M.all (ZCc M.i rest.length) s s'∧Run X k s'
theorem TBF.eqv {X:Env}{M:Md}{rest:List Oper}{k:List Item}{s t:AS}(h:TBF X M rest k s)(he:t.eqv s):TBF X M rest k t:=by
 obtain⟨s',h1,h2⟩:=h;obtain⟨t',h3,h4⟩:=h1.eqv (t:=t) ⟨he.n0.symm,he.hid.symm,he.len.symm,he.h.symm,fun i=>(he.get i).symm⟩;exact⟨t',h3,h2.eqv ⟨h4.n0.symm,h4.hid.symm,h4.len.symm,h4.h.symm,fun i=>(h4.get i).symm⟩⟩
theorem St.D_ {N:Nat}{c:Ctx}{a:Act}{s:AS}(h:St N c a s)(n:Nat):St N ⟨c.w,c.S,c.γ,s.h ++ ZAP n .D_⟩ a { s with h:=s.h ++ ZAP n .D_ }∧Ext c ⟨c.w,c.S,c.γ,s.h ++ ZAP n .D_⟩:=by
 have TAN:∀ (i:Nat) (o:AO),(s.h ++ ZAP n AO.D_)[i]?=some o→o≠.D_→c.H[i]?=some o:=by
  intro i o ho hne;rw[h.heap];rw[ZDr]at ho
  split at ho
  ·exact ho
  ·exfalso
   have:=ZAK ho;rw[List.mem_replicate]at this;exact hne this.2
 have hold:∀ (i:Nat) (o:AO),c.H[i]?=some o→(s.h ++ ZAP n AO.D_)[i]?=some o:=by
  intro i o ho;rw[h.heap]at ho;rw[T_ (S_.1 ho).1];exact ho
 have J':Ext c ⟨c.w,c.S,c.γ,s.h ++ ZAP n .D_⟩:=by
  refine⟨?_,fun _ h=>h,fun _ h=>.inl h,?_,fun _ _ _=>rfl,N' _,rfl,rfl,rfl⟩
  ·intro i o ho
   have h1:=hold i o ho;cases o with
   |D_=>trivial
   |dead=>exact h1
   |row v _ _=>exact .inr ⟨v,by simp[inf,h1,AO.info],.inr ⟨rfl,rfl⟩⟩
   |con v _ _=>exact .inr ⟨v,by simp[inf,h1,AO.info],.inr ⟨rfl,rfl⟩⟩
   |map k g=>exact .inr ⟨⟨k,g,h1⟩,rfl⟩
  ·rintro b ⟨i,o,sz,ho,TAP,hg⟩
   exact .inr ⟨i,o,sz,TAN i o ho (by rintro rfl;simp[AO.owned]at TAP),TAP,hg⟩
 refine⟨⟨h.size,h.defers,fun i=>J'.rep h.H_ (h.TAQ i),rfl,?_⟩,J'⟩;refine⟨?_,?_,?_,?_,h.H_.bound⟩
 ·intro id v m f ho
  rcases h.H_.row id v m f (TAN _ _ ho (by simp))with h1 | ⟨b,sz,cs,el,h1,h2,h3,h4,h5,h6⟩
  ·exact .inl h1
  ·exact .inr ⟨b,sz,cs,el,h1,h2,h3,h4,h5,fun j hj=>J'.rep h.H_ (h6 j hj)⟩
 ·intro id v m f ho
  rcases h.H_.con id v m f (TAN _ _ ho (by simp))with h1 | ⟨b,sz,cs,el,fr,h1,h2,h3,h4,h5,h6⟩
  ·exact .inl h1
  ·exact .inr ⟨b,sz,cs,el,fr,h1,h2,h3,h4,h5,fun j hj=>J'.rep h.H_ (h6 j hj)⟩
 ·intro id k g ho
  obtain⟨b,sz,es,cl,h1,h2,h3,h4⟩:=h.H_.map id k g (TAN _ _ ho (by simp));exact⟨b,sz,es,cl,h1,h2,h3,h4.ext fun v a hv=>J'.rep h.H_ hv⟩
 ·intro i i' o o' b sz sz' ho ho' h1 h2 hg hg'
  exact h.H_.inj _ _ _ _ _ _ _ (TAN _ _ ho (by rintro rfl;simp[AO.owned]at h1)) (TAN _ _ ho' (by rintro rfl;simp[AO.owned]at h2)) h1 h2 hg hg'
theorem St.drew {N:Nat}{c:Ctx}{a:Act}{s:AS}(h:St N c a s):St N { c with w:=c.w.drew } a s∧Ext c { c with w:=c.w.drew }:=by
 have J':Ext c { c with w:=c.w.drew }:=⟨HLe.refl c,fun _ h=>h,fun _ h=>.inl h,fun _ h=>.inr h,fun _ _ _=>rfl,N' _,rfl,rfl,rfl⟩
 have TAb:∀ {v a},Rep c v a→Rep { c with w:=c.w.drew } v a:=fun hv=>J'.rep h.H_ hv
 refine⟨⟨h.size,h.defers,fun i=>TAb (h.TAQ i),h.heap,?_⟩,J'⟩;refine⟨?_,?_,?_,h.H_.inj,h.H_.bound⟩
 ·intro id v m f ho
  rcases h.H_.row id v m f ho with h1 | ⟨b,sz,cs,el,h1,h2,h3,h4,h5,h6⟩
  ·exact .inl h1
  ·exact .inr ⟨b,sz,cs,el,h1,h2,h3,h4,h5,fun j hj=>TAb (h6 j hj)⟩
 ·intro id v m f ho
  rcases h.H_.con id v m f ho with h1 | ⟨b,sz,cs,el,fr,h1,h2,h3,h4,h5,h6⟩
  ·exact .inl h1
  ·exact .inr ⟨b,sz,cs,el,fr,h1,h2,h3,h4,h5,fun j hj=>TAb (h6 j hj)⟩
 ·intro id k g ho
  obtain⟨b,sz,es,cl,h1,h2,h3,h4⟩:=h.H_.map id k g ho;exact⟨b,sz,es,cl,h1,h2,h3,h4.ext fun v a hv=>TAb hv⟩
theorem Gq {N:Nat}{ops:Array Oper}(h:tV N ops=true):∀o∈ops.toList,∀i,o.dst=some i→i<N:=by
 intro o ho i hi;have:=(ZCl.1 h) o (by simpa using ho)
 simpa [hi]using this
theorem Run.region {X:Env}{id:Nat}{ops:Array Oper}{draw:Bool}{k:List Item}{s s':AS}(h:Run X k s')
  (hr:DJ X (.code (.region id ops draw) :: k)→X.P.follows .mixedOrders=true→∀ (c:Ctx) (a:Act) (ds:List Deferred),St X.fn.ntmps c a s→(∀p∈X.tok,TAV c p) →
   (Code.region id ops draw).wpIn (Ac (X.rnd.map (·.1))) 0 X.P (fun e a' w'=>e=.normal∧∃ (a1:Act) (c':Ctx),a'={ a1 with defers:=ds }∧c'.w=w'∧St X.fn.ntmps c' a1 s'∧Ext c c') { a with defers:=ds } c.w):Run X (.code (.region id ops draw) :: k) s:=by
 intro hm ho hrn c0 c a ds hst hp b cs hf hk hb;obtain⟨e,a',w',⟨rfl,a1,c',rfl,rfl,TAu,hx⟩,TD0⟩:=hr ho hm c a ds hst (fun p hp'=>(hp.tok p hp').1) b k cs hb trivial (La _ _);obtain⟨v,fr,r,c'',h1,h2⟩:=h hm (Qz.1 ho).2 hrn c0 c' a1 ds TAu (hp.step (hx.toB _)) b cs hf hk hb;exact⟨v,fr,r,c'',Steps.trans (Fi.1 TD0) h1,h2⟩
theorem Wq {X:Env}{id:Nat}{ops:Array Oper}{k:List Item}{s:AS}{st:Nat→Bool}(h:TBF X ⟨ops,st,true,none,0,0⟩ ops.toList k s.clr):Run X (.code (.region id ops false) :: k) s:=by
 obtain⟨s',h1,h2⟩:=h;refine h2.region fun ho hm c a ds hst TAk=>?_
 have hok:=(Qz.1 ho).1;simp only[ZJ,QO,x_]at hok;refine wpIn_region ?_;have e:ZAO ops.size=ZCc 0 ops.toList.length:=by simp[ZDv]
 rw[e];exact TAc.sound (Gq hok.1) _ hst.clr TAk h1 fun a' c' TAu hx=>⟨rfl,a',c',rfl,rfl,TAu,hx⟩
def EL (C':Bool)(ops:Array Oper)(s:AS):AS:={ s.clr with h:=s.h ++ ZAP (EI C' ops) .D_ }
theorem Bo {X:Env}{id:Nat}{ops:Array Oper}{k:List Item}{s:AS}(T:Nat→Prop)
  (h:∃s',TAa X.P X.tok (HM X.str id) (X.hcs.contains id) (CS (X.hcs.contains id) ops s.h.length) ops (dJ X.str id) T (ZCc 0 ops.toList.length) (EL (X.hcs.contains id) ops s) s'∧Run X k s'):Run X (.code (.region id ops true) :: k) s:=by
 obtain⟨s',h1,h2⟩:=h;refine h2.region fun ho hm c a ds hst TAk=>?_
 have hok:=(Qz.1 ho).1;simp only[ZJ,QO,x_,Bool.not_true,Bool.false_or]at hok;refine wpIn_region_any hm ?_;obtain⟨TBZ,hx1⟩:=hst.clr.drew;obtain⟨TCu,hx2⟩:=TBZ.D_ (EI (X.hcs.contains id) ops);have e:ops.toList.length=(ZAO ops.size).length:=by simp
 have e2:ZCc 0 ops.toList.length=ZAO ops.size:=by simp[ZDv]
 have e3:ops.size=(ZAO ops.size).length:=by simp
 have key:=iT (P:=X.P) (fl:=dJ X.str id) (T:=T) (strict:=HM X.str id) (C':=X.hcs.contains id) (all:=ops) (N:=X.fn.ntmps) (base:=s.h.length) (Gq hok.1) hok.2 (s':=s')
  (ro:=X.rnd.map (·.1)) (ds:=ds) (Q:=fun e a' w'=>e=.normal∧∃ (a1:Act) (c':Ctx),a'={ a1 with defers:=ds }∧c'.w=w'∧St X.fn.ntmps c' a1 s'∧Ext c c')
  (ZAO ops.size) (Array.replicate ops.size false) (by simp) (fun k o _ hl=>by exfalso;simp[ZAV]at hl) List.pairwise_lt_range (fun i=>by
   rw[ZDH];constructor
   ·intro hi;exact⟨hi,by simp[ZAV,hi]⟩
   ·exact fun h=>h.1) TCu (fun p hp=>(TAk p hp).ext (hx1.trans hx2)) (fun i hi id' hid=>?_) (fun m t _ hl=>by exfalso;simp[ZAV]at hl) ⟨s',by rw[←e2];exact h1,.B_ _⟩ (fun a' c' TAu hx=>⟨rfl,a',c',rfl,rfl,TAu,(hx1.trans hx2).trans hx⟩)
 ·rw[←e3]at key
  exact key
 ·unfold CS at hid
  cases hoi:ops[i]? with
  |none=>simp[hoi]at hid
  |some oi =>
   simp only[hoi]at hid
   split at hid
   ·rename_i hc
    simp only[t_]at hid;have:=mz hoi hc;show(s.clr.h ++ _)[id']?=_;have hl:s.clr.h.length=s.h.length:=rfl;rw[g_ (by omega)];rw[ZAx];rw[N_ (by omega)]
   ·cases hid
theorem mP {X:Env}{id:Nat}{ops:Array Oper}{k:List Item}{s:AS}(hf:DZ X.str id=true)
  (h:TBF X ⟨ops,HM X.str id,X.hcs.contains id,some s.h.length,0,s.h.length⟩ ops.toList k (EL (X.hcs.contains id) ops s)):Run X (.code (.region id ops true) :: k) s:=by
 obtain⟨s',h1,h2⟩:=h;exact Bo (fun _=>True) ⟨s',TAc.toT (OC hf) h1,h2⟩
def Sub (m:Nat)(s s':AS):Prop:=∀N c a,St N c a s→∃c':Ctx,c'.w=c.w∧TAd m c c'∧St N c' a s'
theorem Run.sub {X:Env}{k:List Item}{s s':AS}(h:Run X k s')(hs:Sub X.base s s'):Run X k s:=by
 intro hm ho hr c0 c a ds hst hp b cs hf hk hb;obtain⟨c',hw,hx,TAu⟩:=hs _ c a hst;obtain⟨v,fr,r,c'',h1,h2⟩:=h hm ho hr c0 c' a ds TAu (hp.step hx) b cs hf hk hb;rw[hw]at h1;exact⟨v,fr,r,c'',h1,h2⟩
theorem Sub.B_ (m:Nat)(s:AS):Sub m s s:=fun _ c _ h=>⟨c,rfl,(Ext.refl c).toB m,h⟩
theorem Sub.trans {m:Nat}{a b c:AS}(h:Sub m a b)(k:Sub m b c):Sub m a c:=fun N x y hst=>by
 obtain⟨c1,h1,h2,h3⟩:=h N x y hst;obtain⟨c2,k1,k2,k3⟩:=k N c1 y h3;exact⟨c2,k1.trans h1,h2.trans k2,k3⟩
theorem Xz {m:Nat}{s:AS}(id:Nat){ver n:Nat}{f:Nat→AV}(ho:s.h[id]?=some (.row ver n f)):Sub m s { s with h:=s.h.set id (.con ver n f) }:=by
 intro N c a hst;have hH:=hst.heap;rw[←hH]at ho;have hlt:=(S_.1 ho).1;have hat:(c.H.set id (.con ver n f))[id]?=some (.con ver n f):=by simp[hlt]
 have TAI:∀i,i≠id→(c.H.set id (AO.con ver n f))[i]?=c.H[i]?:=fun i hi=>L_ (w_ hi)
 let S':Nat→Prop:=fun b=>c.S b∨∃sz,c.γ id=some (b,sz)
 let c':Ctx:=⟨c.w,S',c.γ,c.H.set id (.con ver n f)⟩
 have J':Ext c c':=by
  refine⟨?_,fun b h=>.inl h,?_,?_,fun _ _ _=>rfl,N' _,rfl,rfl,rfl⟩
  ·intro i o hoi
   by_cases hi:i=id
   ·subst hi
    rw[ho]at hoi;cases hoi;exact .inr ⟨ver,by simp[c',inf,hat,AO.info],.inr ⟨rfl,rfl⟩⟩
   ·have h1:=HLe.refl c i o hoi
    have e1:=TAI i hi;cases o with
    |D_=>trivial
    |dead=>simpa [c',e1]using h1
    |row v _ _=>simpa [c',e1,inf]using h1
    |con v _ _=>simpa [c',e1,inf]using h1
    |map k g=>simpa [c',e1]using h1
  ·rintro b (h | ⟨sz,h⟩)
   ·exact .inl h
   ·exact .inr (.inr ⟨id,_,sz,ho,rfl,h⟩)
  ·rintro b ⟨i,o,sz,hoi,TAP,hg⟩
   by_cases hi:i=id
   ·subst hi
    simp only[c']at hoi;rw[hat]at hoi;cases hoi;simp[AO.owned]at TAP
   ·simp only[c']at hoi
    rw[TAI i hi]at hoi;exact .inr ⟨i,o,sz,hoi,TAP,hg⟩
 have TAb:∀ {v a},Rep c v a→Rep c' v a:=fun hv=>J'.rep hst.H_ hv
 refine⟨c',rfl,J'.toB m,hst.size,hst.defers,fun i=>TAb (hst.TAQ i),by simp[c',hH],?_⟩;have hnS:∀ {i o b sz},i≠id→c.H[i]?=some o→o.owned=true→c.γ i=some (b,sz)→¬c.S b→¬S' b:=by
  rintro i o b sz hi hoi TAP hg hn (h | ⟨sz',h⟩)
  ·exact hn h
  ·exact hi (hst.H_.inj _ _ _ _ _ _ _ hoi ho TAP rfl hg h)
 refine⟨?_,?_,?_,?_,?_⟩
 ·intro i v k g hoi
  by_cases hi:i=id
  ·subst hi;simp only[c']at hoi;rw[hat]at hoi;cases hoi
  ·simp only[c']at hoi
   rw[TAI i hi]at hoi;rcases hst.H_.row i v k g hoi with h | ⟨b,sz,cs,el,h1,h2,h3,h4,h5,h6⟩
   ·exact .inl h
   ·exact .inr ⟨b,sz,cs,el,h1,h2,h3,h4,hnS hi hoi rfl h1 h5,fun j hj=>TAb (h6 j hj)⟩
 ·intro i v k g hoi
  by_cases hi:i=id
  ·subst hi
   simp only[c']at hoi;rw[hat]at hoi;cases hoi;rcases hst.H_.row i ver n f ho with h | ⟨b,sz,cs,el,h1,h2,h3,h4,h5,h6⟩
   ·exact .inl h
   ·exact .inr ⟨b,sz,cs,el,(0,0),h1,h2,h3,h4,.inr ⟨sz,h1⟩,fun j hj=>TAb (h6 j hj)⟩
  ·simp only[c']at hoi
   rw[TAI i hi]at hoi;rcases hst.H_.con i v k g hoi with h | ⟨b,sz,cs,el,fr,h1,h2,h3,h4,h5,h6⟩
   ·exact .inl h
   ·exact .inr ⟨b,sz,cs,el,fr,h1,h2,h3,h4,.inl h5,fun j hj=>TAb (h6 j hj)⟩
 ·intro i k g hoi
  by_cases hi:i=id
  ·subst hi;simp only[c']at hoi;rw[hat]at hoi;cases hoi
  ·simp only[c']at hoi
   rw[TAI i hi]at hoi;obtain⟨b,sz,es,cl,h1,h2,h3,h4⟩:=hst.H_.map i k g hoi;exact⟨b,sz,es,cl,h1,h2,hnS hi hoi rfl h1 h3,h4.ext fun v a hv=>TAb hv⟩
 ·intro i i' o o' b sz sz' hoi TAn h1 h2 hg hg'
  by_cases hi:i=id
  ·subst hi;simp only[c']at hoi;rw[hat]at hoi;cases hoi;simp[AO.owned]at h1
  ·by_cases hi':i'=id
   ·subst hi';simp only[c']at TAn;rw[hat]at TAn;cases TAn;simp[AO.owned]at h2
   ·simp only[c']at hoi TAn
    rw[TAI i hi]at hoi;rw[TAI i' hi']at TAn;exact hst.H_.inj _ _ _ _ _ _ _ hoi TAn h1 h2 hg hg'
 ·rintro b (h | ⟨sz,h⟩)
  ·exact hst.H_.bound b h
  ·exact hst.H_.TBH ⟨id,_,sz,ho,rfl,h⟩
def VJ (s:AS)(id:Nat):Option AO→AS
 |some (.row ver n f)=>{ s with h:=s.h.set id (.con ver n f) }
 |_=>s
def kK (s:AS):AV→AS
 | .ref id _ _=>VJ s id s.h[id]?
 | .osl id _ _ _ _=>VJ s id s.h[id]?
 |_=>s
def AS.frz (s:AS):List Nat→AS
 | []=>s
 |i :: l=>(kK s (s.get i)).frz l
def G3:List Nat→Nat→List Nat
 | [],_=>[]
 |n :: l,id=>if n/10000000=id+1 then n%10000000 :: G3 l id else G3 l id
theorem np (m:Nat)(s:AS)(v:AV):Sub m s (kK s v):=by
 have key:∀id,Sub m s (VJ s id s.h[id]?):=fun id=>by
  cases ho:s.h[id]? with
  |none=>exact Sub.B_ m s
  |some o =>
   cases o with
   |row ver n f=>exact Xz id ho
   |_=>exact Sub.B_ m s
 cases v with
 |ref id ver off=>exact key id
 |osl id ver es off n=>exact key id
 |_=>exact Sub.B_ m s
theorem aN (m:Nat):∀ (l:List Nat) (s:AS),Sub m s (s.frz l)
 | [],s=>Sub.B_ m s
 |i :: l,s=>(np m s (s.get i)).trans (aN m l _)
inductive Tag {α:Type}(a:α):Type where
 |mk
def bm (X:Env)(k:List Item)(_:Tag (X,k)) (s:AS):Prop:=Run X k s
def xU (X:Env)(_:Tag X)(s:AS):Prop:=TAC X s
def zz (X:Env)(_:Tag X)(s:AS):Prop:=TBT X s
def bh (X:Env)(k:List Item)(s:AS):Prop:=Run X k s
def tj (X:Env)(M:Md)(o:Oper)(K:AS→Prop)(_:Tag (X,M,o,K)) (f:AV) (args:List AV) (s:AS):Prop :=
 ∃v h',Pz X.P X.tok (M.strict M.i) M.C' f args s.h v h'∧K (({ s with h:=h' }:AS).E' o.dst v)
abbrev GE (X:Env)(M:Md)(o:Oper)(f:AV)(args:List AV)(K:AS→Prop)(s:AS):Prop:=tj X M o K .mk f args s
def Nl:List (Nat×AV)→Nat→AV→List (Nat×AV)
 | [],_,_=>[]
 | (i,v) :: l,d,u=>if d=i then(i,u) :: l else(i,v) :: Nl l d u
def AS.fix (s:AS)(d:Nat)(v:AV):AS:=if d<s.n0 then { s with sl:=s.sl.set d v } else { s with tm:=Nl s.tm d v }
theorem W0 (l:List (Nat×AV)) (d j:Nat) (v:AV) (hv:XM l d=v):XM (Nl l d v) j=XM l j:=by
 induction l with
 |nil=>rfl
 |cons x l ih =>
  obtain⟨i,u⟩:=x;simp only[XM]at hv;simp only[Nl];by_cases hd:d=i
  ·subst hd
   simp at hv;subst hv;simp[XM]
  ·simp only[hd,if_false]at hv
   simp only[hd,if_false,XM]
   split
   ·rfl
   ·exact ih hv
theorem Ri {s:AS}{d:Nat}{v:AV}(hv:s.get d=v):s.eqv (s.fix d v):=by
 unfold AS.fix;by_cases hd:d<s.n0
 ·rw[N_ hd]
  refine⟨rfl,rfl,by simp,rfl,fun i=>?_⟩;unfold AS.get at hv ⊢;simp only[hd,if_true]at hv;by_cases hi:i<s.n0
  ·simp only[hi,if_true]
   rw[FA];by_cases h:d=i∧i<s.sl.length
   ·rw[N_ h,←h.1,hv]
   ·rw[M_ h]
  ·simp only[hi,if_false]
 ·rw[M_ hd]
  refine⟨rfl,rfl,rfl,rfl,fun i=>?_⟩;unfold AS.get at hv ⊢;simp only[hd,if_false]at hv;by_cases hi:i<s.n0
  ·simp only[hi,if_true]
  ·simp only[hi,if_false]
   exact(W0 _ _ _ _ hv).symm
def AN:Op→Option (Operand×List Operand)
 | .call { callee:=.value f,args,.. }=>some (f,args.toList)
 |_=>none
mutual
def vc (X:Env):Nat→List Item→AS→Prop
 |0,k,s=>bh X k s
 |n+1,k,s =>
  match k with
  | .code c :: k =>
   match c with
   | .skip=>vc X n k s
   | .label _=>vc X n k s
   | .seq a b=>vc X n (.code a :: .code b :: k) s
   | .block id b=>vc X n (.code b :: .inBlock id :: k) s
   | .scope b=>vc X n (.code b :: .inScope b :: k) s
   | .cond c a b =>
    match s.ev c with
    | .bool t=>(t=true→vc X n (.code a :: k) s)∧(t=false→vc X n (.code b :: k) s)
    | .TAg=>vc X n (.code a :: k) s∧vc X n (.code b :: k) s
    |_=>False
   | .exit id =>
    match exitTo id k with
    |some k'=>vc X n k' s
    |none=>False
   | .region id ops draw =>
    if draw then DZ X.str id=true∧XA X n ⟨ops,HM X.str id,X.hcs.contains id,some (s.frz (G3 X.str id)).h.length,0,(s.frz (G3 X.str id)).h.length⟩ ops.toList k (EL (X.hcs.contains id) ops (s.frz (G3 X.str id)))
    else XA X n ⟨ops,HM X.str id,true,none,0,0⟩ ops.toList k s.clr
   | .ret=>TAC X s
   |c=>bh X (.code c :: k) s
  | .inBlock _ :: k=>vc X n k s
  | .inScope _ :: k=>vc X n k s
  | []=>TBT X s
  |k=>bh X k s
def XA (X:Env):Nat→Md→List Oper→List Item→AS→Prop
  |0,M,os,k,s=>TBF X M os k s
  |n+1,M,os,k,s =>
    match os with
    | []=>vc X n k s
    |o :: os =>
      match o.guard with
      |none=>Qr X n M o os k s
      |some (j,want) =>
        match (M.all[j]?).bind (·.dst)with
        |some d =>
          match s.get d with
          | .bool b=>(b=true→if want=true then Qr X n M o os k (s.fix d (.bool true))else XA X n (M.next o) os k ((s.fix d (.bool true)).E' o.dst XZ)) ∧
                       (b=false→if want=false then Qr X n M o os k (s.fix d (.bool false))else XA X n (M.next o) os k ((s.fix d (.bool false)).E' o.dst XZ))
          | .tup []=>XA X n (M.next o) os k (s.E' o.dst XZ)
          |_=>False
        |none=>False
def Qr (X:Env):Nat→Md→Oper→List Oper→List Item→AS→Prop
 |0,_,_,_,_,_=>False
 |n+1,M,o,os,k,s =>
  match AN o.op with
  |some (f,args)=>GE X M o (s.ev f) (args.map s.ev) (fun s'=>XA X n (M.next o) os k s') s
  |none =>
   match M.base with
   |none=>Q2 (Jk X.P (M.strict M.i) none o.op s.ev s.h) fun r=>XA X n (M.next o) os k (({ s with h:=r.2 }:AS).E' o.dst r.1)
   |some _ =>
    if QJ M.C' o.op=2 then s.h[M.nx]?=some .D_∧Q2 (Jk X.P (M.strict M.i) (some M.nx) o.op s.ev s.h) fun r=>XA X n (M.next o) os k (({ s with h:=r.2 }:AS).E' o.dst r.1)
    else Q2 (Jk X.P (M.strict M.i) none o.op s.ev s.h) fun r=>XA X n (M.next o) os k (({ s with h:=r.2 }:AS).E' o.dst r.1)
end
theorem Md.TBa {M:Md}{o:Oper}{os:List Oper}(h:M.ok (o :: os)):M.all[M.i]?=some o:=by
 have h1:=h.1;have:(M.all.toList.drop M.i)[0]?=some o:=by rw[h1];rfl
 rw[ZBi]at this
 simpa using this
theorem Wj {C':Bool}{all:Array Oper}{i:Nat}{o:Oper}(ho:all[i]?=some o):CW C' all (i+1)=CW C' all i+if QJ C' o.op=2 then 1 else 0:=by
 unfold CW;have hi:i<all.toList.length:=by simpa using (f_.1 ho).1
 have h1:(all.toList.take (i+1))=all.toList.take i ++ [o]:=by
  rw[ZCa hi];congr 2;have:=(f_.1 ho).2
  simpa using this
 rw[h1,ZEB,j_];by_cases hc:QJ C' o.op=2 <;> simp[hc]
theorem Md.TBK {M:Md}{o:Oper}{os:List Oper}(h:M.ok (o :: os)):(M.next o).ok os:=by
 refine⟨?_,?_⟩
 ·have h1:=h.1
  show M.all.toList.drop (M.i+1)=os;rw[←List.tail_drop,h1];rfl
 ·intro b hb
  have hb':M.base=some b:=hb;have hnx:M.nx=b+CW M.C' M.all M.i:=h.2 b hb';show(match M.base with |none=>M.nx |some _=>if QJ M.C' o.op=2 then M.nx+1 else M.nx)=b+CW M.C' M.all (M.i+1);rw[hb',Wj (Md.TBa h),hnx];simp only
  split <;> omega
theorem TBF.cons {X:Env}{M:Md}{o:Oper}{os:List Oper}{k:List Item}{s s1:AS}(h1:GStep X.P X.tok M.strict M.C' M.nid M.all M.i s s1)(h2:TBF X (M.next o) os k s1):TBF X M (o :: os) k s:=by
 obtain⟨s',h3,h4⟩:=h2;refine⟨s',?_,h4⟩;show TAc X.P X.tok M.strict M.C' M.nid M.all (ZCc M.i (os.length+1)) s s';rw[List.range'_succ];exact⟨s1,h1,h3⟩
theorem NW {op:Op}{f:Operand}{args:List Operand}(h:AN op=some (f,args)):∃as ts,op=.call { callee:=.value f,args:=as,argTypes:=ts }∧args=as.toList:=by
 unfold AN at h
 split at h
 ·cases h;exact⟨_,_,rfl,rfl⟩
 ·cases h
theorem Ta {all:Array Oper}{s:AS}{o:Oper}{j d:Nat}{want b:Bool}(hg:o.guard=some (j,want)) (hd:(all[j]?).bind (·.dst)=some d) (hs:s.get d=.bool b):TAw all s o=some (b == want):=by
 unfold TAw;simp[hg,hd,hs]
theorem nI (X:Env):∀n,(∀k s,vc X n k s→Run X k s)∧(∀M os k s,M.ok os→XA X n M os k s→TBF X M os k s) ∧
  (∀M o os k s,M.ok (o :: os)→TAw M.all s o=some true→Qr X n M o os k s→TBF X M (o :: os) k s)
 |0=>⟨fun k s h=>by simpa [vc,bh]using h,fun M os k s _ h=>by simpa [XA]using h,fun M o os k s _ _ h=>by simp[Qr]at h⟩
 |n+1=>by
  obtain⟨ih1,ih2,ih3⟩:=nI X n;refine⟨?_,?_,?_⟩
  ·intro k s h
   unfold vc at h
   split at h
   ·rename_i c k
    split at h
    ·exact mU (ih1 _ _ h)
    ·exact fQ (ih1 _ _ h)
    ·exact rL (ih1 _ _ h)
    ·exact fO (ih1 _ _ h)
    ·exact fS (ih1 _ _ h)
    ·split at h
     ·rename_i t ht
      refine mO ht ?_;cases t
      ·exact ih1 _ _ (h.2 rfl)
      ·exact ih1 _ _ (h.1 rfl)
     ·rename_i ht
      exact fP ht (ih1 _ _ h.1) (ih1 _ _ h.2)
     ·exact h.elim
    ·split at h
     ·rename_i k' hk
      exact mR hk (ih1 _ _ h)
     ·exact h.elim
    ·rename_i id ops draw
     cases draw with
     |true =>
      simp only[if_true]at h;obtain⟨hfl,h⟩:=h;exact(mP hfl (ih2 _ _ _ _ ⟨by simp,fun b hb=>by cases hb;simp[CW]⟩ h)).sub (aN _ _ _)
     |false =>
      simp only[ZEA,if_false]at h;exact Wq (ih2 _ _ _ _ ⟨by simp,fun b hb=>by cases hb⟩ h)
    ·exact rK h
    ·exact h
   ·exact U6 (ih1 _ _ h)
   ·exact U7 (ih1 _ _ h)
   ·exact rI h
   ·exact h
  ·intro M os k s hM h
   unfold XA at h
   split at h
   ·exact⟨s,rfl,ih1 _ _ h⟩
   ·rename_i o os
    split at h
    ·rename_i hg
     exact ih3 _ _ _ _ _ hM (by simp[TAw,hg]) h
    ·rename_i j want hg
     split at h
     ·rename_i d hd
      split at h
      ·rename_i b hs
       have fixed:∀b',b=b'→(s.fix d (.bool b')).get d=.bool b':=fun b' e=>by
        rw[← (Ri (v:=.bool b') (by rw[hs,e])).get d,hs,e]
       have TCm:∀b',b=b'→b'≠want→XA X n (M.next o) os k ((s.fix d (.bool b')).E' o.dst XZ)→TBF X M (o :: os) k s:=by
        intro b' e hne h';refine(TBF.cons ⟨o,Md.TBa hM,.inr ⟨?_,rfl⟩⟩ (ih2 _ _ _ _ (Md.TBK hM) h')).eqv (Ri (by rw[hs,e]));rw[Ta hg hd (fixed b' e)]
        simpa using hne
       have taken:∀b',b=b'→b'=want→Qr X n M o os k (s.fix d (.bool b'))→TBF X M (o :: os) k s:=by
        intro b' e hw h';refine(ih3 _ _ _ _ _ hM ?_ h').eqv (Ri (by rw[hs,e]));rw[Ta hg hd (fixed b' e),hw];simp
       cases hb:b with
       |true =>
        have h':=h.1 hb
        split at h'
        ·rename_i hw;exact taken true hb hw.symm h'
        ·rename_i hw;exact TCm true hb (fun e=>hw e.symm) h'
       |false =>
        have h':=h.2 hb
        split at h'
        ·rename_i hw;exact taken false hb hw.symm h'
        ·rename_i hw;exact TCm false hb (fun e=>hw e.symm) h'
      ·rename_i hs
       refine TBF.cons ⟨o,Md.TBa hM,.inr ⟨?_,rfl⟩⟩ (ih2 _ _ _ _ (Md.TBK hM) h);unfold TAw;simp[hg,hd,hs]
      ·exact h.elim
     ·exact h.elim
  ·intro M o os k s hM hgv h
   unfold Qr at h;have TEc:QJ M.C' o.op≠2→M.nid M.i=none:=by
    intro hc;have hg:=Md.TBa hM;unfold Md.nid;cases M.base with
    |none=>rfl
    |some b=>simp[CS,hg,hc]
   have step:∀v h' nid,M.nid M.i=nid→(∀id,nid=some id→s.h[id]?=some .D_)→(Jk X.P (M.strict M.i) nid o.op s.ev s.h=some (v,h')∨I0 X.P X.tok (M.strict M.i) M.C' o.op s.ev s.h v h') →
     TBF X (M.next o) os k (({ s with h:=h' }:AS).E' o.dst v)→TBF X M (o :: os) k s:=by
    intro v h' nid TAj hu he hr;exact TBF.cons ⟨o,Md.TBa hM,.inl ⟨hgv,by rw[TAj];exact hu,v,h',by rw[TAj];exact he,rfl⟩⟩ hr
   split at h
   ·rename_i f args hca
    obtain⟨as,ts,hop,rfl⟩:=NW hca;obtain⟨v,h',hc,hk⟩:=h;have TC0:QJ M.C' o.op≠2:=by rw[hop];cases M.C' <;> simp[QJ]
    exact step v h' none (TEc TC0) (fun id hid=>by cases hid) (.inr ⟨f,as,ts,hop,hc⟩) (ih2 _ _ _ _ (Md.TBK hM) hk)
   ·split at h
    ·rename_i TCn
     obtain⟨⟨v,h'⟩,ha,hk⟩:=h;exact step v h' none (by simp[Md.nid,TCn]) (fun id hid=>by cases hid) (.inl ha) (ih2 _ _ _ _ (Md.TBK hM) hk)
    ·rename_i b TCn
     split at h
     ·rename_i hc
      obtain⟨hu,⟨v,h'⟩,ha,hk⟩:=h;have TAj:M.nid M.i=some M.nx:=by
       unfold Md.nid;simp only[TCn];unfold CS;simp only[Md.TBa hM,hc,if_true,hM.2 b TCn]
      exact step v h' (some M.nx) TAj (fun id hid=>by cases hid;exact hu) (.inl ha) (ih2 _ _ _ _ (Md.TBK hM) hk)
     ·rename_i hc
      obtain⟨⟨v,h'⟩,ha,hk⟩:=h;exact step v h' none (TEc hc) (fun id hid=>by cases hid) (.inl ha) (ih2 _ _ _ _ (Md.TBK hM) hk)
theorem nO {X:Env}(n:Nat){k:List Item}{s:AS}(h:vc X n k s):Run X k s:=(nI X n).1 k s h
end
end Go.Ab
