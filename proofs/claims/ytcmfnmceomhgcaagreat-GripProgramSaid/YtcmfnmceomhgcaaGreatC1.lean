/- Contracts of functions, for every argument that fits. -/
import Derived.Test.YtcmfnmceomhgcaaGreatAb4
import Derived.Test.YtcmfnmceomhgcaaGreatRows
import Derived.KernelRfl
open And renaming intro → XK
set_option linter.unusedSimpArgs false
set_option linter.unusedVariables false
open Nat renaming reducePow → Y1, reduceLT → Y2, reduceLeDiff → Y3, reduceEqDiff → Y4, reduceAdd → Y5, reduceMul → Y6, reduceSub → Y7, reduceBEq → Y8, reduceDiv → Y9, reduceMod → YA
namespace Go.Ab.N
open Go.Ab
open Classical
noncomputable section
def pw:Nat→Int
 |0=>1
 |n+1=>1000000000*pw n
theorem Jn:∀n,0<pw n
 |0=>by simp[pw]
 |n+1=>by have:=Jn n;simp only[pw];omega
theorem Do (m n:Nat):pw (m+n)=pw m*pw n:=by
 induction m with
 |zero=>simp[pw]
 |succ m ih=>rw[show m+1+n=(m+n)+1 by omega];simp only[pw];rw[ih,Int.mul_assoc]
theorem Cl {m n:Nat}(h:m≤n):pw m≤pw n:=by
 obtain⟨k,rfl⟩:=Nat.exists_eq_add_of_le h
 induction k with
 |zero=>exact Int.le_refl _
 |succ k ih =>
  have h1:=ih (by omega);have h2:=Jn (m+k);rw[show m+(k+1)=(m+k)+1 by omega];simp only[pw];omega
def val:List Int→Int
 | []=>0
 |d :: l=>d+1000000000*val l
def Q5 (d:Int):Prop:=0≤d∧d<1000000000
def Jl (l:List Int):Prop:=∀d∈l,Q5 d
def Ai (l:List Int):Prop:=Jl l∧(l≠[]→l.getD (l.length-1) 0≠0)
theorem Cg:Jl []:=fun _ h=>by cases h
theorem KW {d:Int}{l:List Int}:Jl (d :: l)↔Q5 d∧Jl l:=by unfold Jl;simp
theorem Iu {l m:List Int}:Jl (l ++ m)↔Jl l∧Jl m:=by
 unfold Jl;constructor
 ·exact fun h=>⟨fun d hd=>h d (List.mem_append_left _ hd),fun d hd=>h d (List.mem_append_right _ hd)⟩
 ·rintro⟨h1,h2⟩ d hd
  rcases List.mem_append.1 hd with h |h
  ·exact h1 d h
  ·exact h2 d h
theorem Jt {l:List Int}(h:Jl l)(i:Nat):Q5 (l.getD i 0):=by
 by_cases hi:i<l.length
 ·exact h _ (Gh hi)
 ·rw[List.getD_eq_getElem?_getD,List.getElem?_eq_none (by omega)];exact⟨by simp,by simp⟩
theorem QF {l:List Int}(h:Jl l)(n:Nat):Jl (l.take n):=fun d hd=>h d (List.mem_of_mem_take hd)
theorem Nq {l:List Int}(h:∀i,i<l.length→Q5 (l.getD i 0)):Jl l:=by
 intro d hd;obtain⟨i,hi,rfl⟩:=List.getElem_of_mem hd;have:=h i hi;rwa[List.getD_eq_getElem?_getD,List.getElem?_eq_getElem hi]at this
theorem Q2 {l:List Int}(h:Jl l):0≤val l:=by
 induction l with
 |nil=>exact Int.le_refl 0
 |cons d l ih =>
  obtain⟨h1,h2⟩:=KW.1 h;have:=ih h2;simp only[val];unfold Q5 at h1;omega
theorem ZC {l:List Int}(h:Jl l):val l<pw l.length:=by
 induction l with
 |nil=>simp[val,pw]
 |cons d l ih =>
  obtain⟨h1,h2⟩:=KW.1 h;have:=ih h2;simp only[val,List.length_cons,pw];unfold Q5 at h1;omega
theorem Po (l m:List Int):val (l ++ m)=val l+pw l.length*val m:=by
 induction l with
 |nil=>simp[val,pw]
 |cons d l ih =>
  simp only[List.cons_append,val,List.length_cons,pw];rw[ih,Int.mul_add,Int.mul_assoc];omega
theorem Ez (l:List Int)(x:Int):val (l ++ [x])=val l+pw l.length*x:=by
 rw[Po];simp[val]
theorem Jk (l:List Int)(i:Nat)(h:i<l.length):val (l.take (i+1))=val (l.take i)+pw i*l.getD i 0:=by
 rw[MB l 0 i h,Ez,List.length_take,Nat.min_eq_left (by omega)]
theorem F0 (n:Nat):val (List.replicate n 0)=0:=by
 induction n with
 |zero=>rfl
 |succ n ih=>simp[List.replicate_succ,val,ih]
theorem CK {l:List Int}(h:Ai l)(hne:l≠[]):pw (l.length-1)≤val l:=by
 have hl:=h.2 hne;have hlen:0<l.length:=List.length_pos_iff.2 hne;have e:=Jk l (l.length-1) (by omega);rw[show l.length-1+1=l.length by omega,List.take_length]at e;have h1:=Q2 (QF h.1 (l.length-1));have h2:=Jt h.1 (l.length-1);have h3:=Jn (l.length-1);have h4:pw (l.length-1)*1≤pw (l.length-1)*l.getD (l.length-1) 0:=Int.mul_le_mul_of_nonneg_left (by unfold Q5 at h2;omega) (by omega);omega
theorem IM:∀ {a b:List Int},Jl a→Jl b→a.length=b.length→val a=val b→a=b
 | [],[],_,_,_,_=>rfl
 | [],_ :: _,_,_,h,_=>by simp at h
 |_ :: _,[],_,_,h,_=>by simp at h
 |x :: a,y :: b,ha,hb,hl,hv=>by
  obtain⟨h1,h2⟩:=KW.1 ha;obtain⟨h3,h4⟩:=KW.1 hb;simp only[val]at hv;unfold Q5 at h1 h3;have hxy:x=y:=by omega
  have hv':val a=val b:=by omega
  rw[hxy,IM h2 h4 (by simpa using hl) hv']
theorem Ys {a b:List Int}(ha:Ai a)(hb:Ai b)(h:val a=val b):a=b:=by
 have key:∀ {a b:List Int},Ai a→Ai b→val a=val b→a.length≤b.length→a=b:=by
  intro a b ha hb h hl;by_cases e:a.length=b.length
  ·exact IM ha.1 hb.1 e h
  ·exfalso
   have hne:b≠[]:=fun e'=>by
    have:b.length=0:=by rw[e'];rfl
    omega
   have h1:=CK hb hne;have h2:=ZC ha.1;have h3:=Cl (show a.length≤b.length-1 by omega);omega
 rcases Nat.le_total a.length b.length with hl |hl
 ·exact key ha hb h hl
 ·exact(key hb ha h.symm hl).symm
def X9 (n:Nat):List Int:=if h:n=0 then []else((n%1000000000:Nat):Int) :: X9 (n/1000000000)
termination_by n
decreasing_by omega
theorem Qj:X9 0=[]:=by rw[X9];simp
theorem B9 {n:Nat}(h:n≠0):X9 n=((n%1000000000:Nat):Int) :: X9 (n/1000000000):=by rw[X9];simp[h]
theorem Xx (n:Nat):val (X9 n)=n:=by
 induction n using Nat.strongRecOn with
 |ind n ih =>
  by_cases h:n=0
  ·subst h;rw[Qj];rfl
  ·rw[B9 h]
   simp only[val];rw[ih (n/1000000000) (by omega)];omega
theorem XN (n:Nat):Jl (X9 n):=by
 induction n using Nat.strongRecOn with
 |ind n ih =>
  by_cases h:n=0
  ·subst h;rw[Qj];exact Cg
  ·rw[B9 h]
   exact KW.2 ⟨⟨by omega,by omega⟩,ih _ (by omega)⟩
theorem Iv {n:Nat}(h:n≠0):X9 n≠[]:=by rw[B9 h];simp
theorem OQ {n:Nat}:X9 n=[]↔n=0:=⟨fun h=>Classical.byContradiction fun e=>Iv e h,fun h=>by rw[h];exact Qj⟩
theorem XV (n:Nat):Ai (X9 n):=by
 refine⟨XN n,?_⟩
 induction n using Nat.strongRecOn with
 |ind n ih =>
  intro hne;by_cases h:n=0
  ·subst h;exact absurd Qj hne
  ·rw[B9 h]
   by_cases h2:n/1000000000=0
   ·rw[h2,Qj];simp;omega
   ·have hn:=Iv h2
    have:=ih (n/1000000000) (by omega) hn;obtain⟨k,hk⟩:∃k,(X9 (n/1000000000)).length=k+1:=⟨(X9 (n/1000000000)).length-1,by have:=List.length_pos_iff.2 hn;omega⟩
    simp only[List.length_cons,hk,Nat.add_sub_cancel]at this ⊢
    simpa using this
theorem AU {l:List Int}(h:Ai l):X9 (val l).toNat=l:=by
 refine Ys (XV _) h ?_;rw[Xx];have:=Q2 h.1;omega
theorem pt {l:List Int}(h:Jl l):((val l).toNat:Int)=val l:=Int.toNat_of_nonneg (Q2 h)
def As (l:List Int):Nat→Nat
 |0=>0
 |n+1=>if l.getD n 0=0 then As l n else n+1
theorem WG (l:List Int):∀n,As l n≤n
 |0=>Nat.le_refl _
 |n+1=>by
  simp only[As]
  split
  ·exact Nat.le_succ_of_le (WG l n)
  ·exact Nat.le_refl _
theorem T2 {l:List Int}:∀n,n≤l.length→val (l.take (As l n))=val (l.take n)
 |0,_=>rfl
 |n+1,h=>by
  simp only[As]
  split
  ·rename_i e
   rw[T2 n (by omega),Jk l n h,e];simp
  ·rfl
theorem V5 {l:List Int}(h:Jl l)(n:Nat)(hn:n≤l.length):Ai (l.take (As l n)):=by
 refine⟨QF h _,fun hne=>?_⟩
 induction n with
 |zero=>simp[As]at hne
 |succ n ih =>
  simp only[As]at hne ⊢
  split
  ·rename_i e;rw[if_pos e]at hne;exact ih (by omega) hne
  ·rename_i e
   rw[List.length_take,Nat.min_eq_left hn,Nat.add_sub_cancel,BF l 0 n (n+1) (by omega)];exact e
theorem bU {l:List Int}(h:Jl l):l.take (As l l.length)=X9 (val l).toNat:=by
 have h1:=V5 h l.length (Nat.le_refl _);rw[←AU h1,T2 _ (Nat.le_refl _),List.take_length]
def sm (f:Nat→Int):Nat→Int
 |0=>0
 |n+1=>sm f n+pw n*f n
def B5 (f:Nat→Int)(n:Nat):List Int:=(List.range n).map f
theorem Qd (f:Nat→Int)(n:Nat):(B5 f n).length=n:=by simp[B5]
theorem Ew (f:Nat→Int)(n:Nat):B5 f (n+1)=B5 f n ++ [f n]:=by simp[B5,List.range_succ]
theorem CA (f:Nat→Int)(n i:Nat)(h:i<n):(B5 f n).getD i 0=f i:=by simp[B5,List.getD_eq_getElem?_getD,h]
theorem KL {f f':Nat→Int}{n:Nat}(h:∀k,k<n→f k=f' k):B5 f n=B5 f' n:=List.map_congr_left fun k hk=>h k (by simpa using hk)
theorem GY (f:Nat→Int):∀n,val (B5 f n)=sm f n
 |0=>rfl
 |n+1=>by rw[Ew,Ez,Qd,GY f n];rfl
theorem Ww (l:List Int):∀n,n≤l.length→sm (fun i=>l.getD i 0) n=val (l.take n)
 |0,_=>rfl
 |n+1,h=>by rw[Jk l n h,←Ww l n (by omega)];rfl
theorem tj (l:List Int)(n:Nat)(h:l.length≤n):sm (fun i=>l.getD i 0) n=val l:=by
 obtain⟨k,rfl⟩:=Nat.exists_eq_add_of_le h
 induction k with
 |zero=>rw[Nat.add_zero,Ww l _ (Nat.le_refl _),List.take_length]
 |succ k ih =>
  rw[show l.length+(k+1)=(l.length+k)+1 by omega];simp only[sm];rw[ih (by omega)];have:l.getD (l.length+k) 0=0:=by rw[List.getD_eq_getElem?_getD,List.getElem?_eq_none (by omega)];rfl
  rw[this];simp
theorem Df {f:Nat→Int}{n:Nat}(h:∀i,i<n→Q5 (f i)):Jl (B5 f n):=by
 refine Nq fun i hi=>?_
 rw[Qd]at hi;rw[CA _ _ _ hi];exact h i hi
def Qi (a b:Nat→Int):Nat→Int
 |0=>0
 |i+1=>if 1000000000≤a i+b i+Qi a b i then 1 else 0
def Ay (a b:Nat→Int)(i:Nat):Int:=if 1000000000≤a i+b i+Qi a b i then a i+b i+Qi a b i-1000000000 else a i+b i+Qi a b i
theorem DX (a b:Nat→Int):∀i,Qi a b i=0∨Qi a b i=1
 |0=>.inl rfl
 |i+1=>by simp only[Qi];split <;> simp
theorem PD {a b:Nat→Int}{i:Nat}(ha:Q5 (a i)) (hb:Q5 (b i)):Q5 (Ay a b i):=by
 have:=DX a b i;unfold Q5 at *;unfold Ay
 split <;> omega
theorem Ot (a b:Nat→Int):∀n,sm (Ay a b) n+pw n*Qi a b n=sm a n+sm b n
 |0=>by simp[sm,Qi]
 |n+1=>by
  have ih:=Ot a b n;have e:Ay a b n+1000000000*Qi a b (n+1)=a n+b n+Qi a b n:=by
   simp only[Ay,Qi]
   split <;> omega
  simp only[sm,pw];have:pw n*(Ay a b n+1000000000*Qi a b (n+1))=pw n*(a n+b n+Qi a b n):=by rw[e]
  grind
def JM (a b:Nat→Int):Nat→Int
 |0=>0
 |i+1=>if a i-b i-JM a b i<0 then 1 else 0
def Bm (a b:Nat→Int)(i:Nat):Int:=if a i-b i-JM a b i<0 then a i-b i-JM a b i+1000000000 else a i-b i-JM a b i
theorem GR (a b:Nat→Int):∀i,JM a b i=0∨JM a b i=1
 |0=>.inl rfl
 |i+1=>by simp only[JM];split <;> simp
theorem SO {a b:Nat→Int}{i:Nat}(ha:Q5 (a i)) (hb:Q5 (b i)):Q5 (Bm a b i):=by
 have:=GR a b i;unfold Q5 at *;unfold Bm
 split <;> omega
theorem Pj (a b:Nat→Int):∀n,sm (Bm a b) n-pw n*JM a b n=sm a n-sm b n
 |0=>by simp[sm,JM]
 |n+1=>by
  have ih:=Pj a b n;have e:Bm a b n-1000000000*JM a b (n+1)=a n-b n-JM a b n:=by
   simp only[Bm,JM]
   split <;> omega
  simp only[sm,pw];have:pw n*(Bm a b n-1000000000*JM a b (n+1))=pw n*(a n-b n-JM a b n):=by rw[e]
  grind
theorem qD {f:Nat→Int}:∀ {n:Nat},(∀i,i<n→Q5 (f i))→0≤sm f n∧sm f n<pw n
 |0,_=>by simp[sm,pw]
 |n+1,h=>by
  obtain⟨h1,h2⟩:=qD (n:=n) fun i hi=>h i (by omega)
  have h3:=h n (by omega);have h4:=Jn n;unfold Q5 at h3;have h5:pw n*f n≤pw n*999999999:=Int.mul_le_mul_of_nonneg_left (by omega) (by omega);have h6:0≤pw n*f n:=Int.mul_nonneg (by omega) h3.1;simp only[sm,pw];omega
theorem WA {a b:Nat→Int}{n:Nat}(ha:∀i,i<n→Q5 (a i)) (hb:∀i,i<n→Q5 (b i)) (h:sm b n≤sm a n):JM a b n=0:=by
 have h1:=Pj a b n;have h2:=(qD (f:=Bm a b) (n:=n) fun i hi=>SO (ha i hi) (hb i hi)).2;rcases GR a b n with e |e
 ·exact e
 ·rw[e]at h1;omega
theorem Qy (l:List Int)(i j:Nat)(x:Int)(hi:i<l.length):(l.set i x).getD j 0=if j=i then x else l.getD j 0:=by
 simp only[List.getD_eq_getElem?_getD,List.getElem?_set];by_cases h:i=j
 ·subst h;simp[hi]
 ·simp[h,Ne.symm h]
theorem Ct:∀ (l:List Int) (i:Nat) (x:Int),i<l.length→val (l.set i x)=val l+pw i*(x-l.getD i 0)
 | [],_,_,h=>by simp at h
 |d :: l,0,x,_=>by simp[val,pw];omega
 |d :: l,i+1,x,h=>by
  have ih:=Ct l i x (by simpa using h);simp only[List.set_cons_succ,val,pw,List.getD_cons_succ];rw[ih,Int.mul_add,Int.mul_assoc];omega
theorem EH {l:List Int}(h:Jl l)(i:Nat){x:Int}(hx:Q5 x):Jl (l.set i x):=fun d hd=>by
 rcases List.mem_or_eq_of_mem_set hd with e |e
 ·exact h d e
 ·rw[e];exact hx
theorem BP {x y:Int}(hx:Q5 x)(hy:Q5 y):0≤x*y∧x*y≤999999998000000001:=by
 unfold Q5 at hx hy;have h1:0≤x*y:=Int.mul_nonneg hx.1 hy.1;have h2:x*y≤999999999*y:=Int.mul_le_mul_of_nonneg_right (by omega) hy.1;omega
theorem Km (l:List Int)(i:Nat)(h:i<l.length):val (l.drop i)=l.getD i 0+1000000000*val (l.drop (i+1)):=by
 rw[List.drop_eq_getElem_cons h];simp only[val];rw[List.getD_eq_getElem?_getD,List.getElem?_eq_getElem h];rfl
theorem Jr (l:List Int)(i:Nat)(h:i≤l.length):val l=val (l.take i)+pw i*val (l.drop i):=by
 conv=>lhs;rw[←List.take_append_drop i l]
 rw[Po,List.length_take,Nat.min_eq_left h]
def Kw (a:Nat→Int)(k:Int):Nat→Int
 |0=>0
 |i+1=>(a i*k+Kw a k i)/1000000000
def FH (a:Nat→Int)(k:Int)(i:Nat):Int:=(a i*k+Kw a k i)%1000000000
theorem CQ {a:Nat→Int}{k:Int}(ha:∀i,Q5 (a i)) (hk:Q5 k):∀i,Q5 (Kw a k i)
 |0=>⟨by simp[Kw],by simp[Kw]⟩
 |i+1=>by
  have h1:=CQ ha hk i;have h2:=BP (ha i) hk;simp only[Kw];unfold Q5 at *;omega
theorem j9 {a:Nat→Int}{k:Int}(ha:∀i,Q5 (a i)) (hk:Q5 k) (i:Nat):Q5 (FH a k i):=by
 unfold FH Q5;omega
theorem W0 (a:Nat→Int)(k:Int):∀n,sm (FH a k) n+pw n*Kw a k n=sm a n*k
 |0=>by simp[sm,Kw]
 |n+1=>by
  have ih:=W0 a k n;have e:FH a k n+1000000000*Kw a k (n+1)=a n*k+Kw a k n:=by
   simp only[FH,Kw];omega
  have e2:pw n*(FH a k n+1000000000*Kw a k (n+1))=pw n*(a n*k+Kw a k n):=by rw[e]
  simp only[sm,pw];grind
def JV (a:List Int)(b:Int)(i:Nat):Int:=val (a.drop i)%b
def An (a:List Int)(b:Int)(i:Nat):Int:=(JV a b (i+1)*1000000000+a.getD i 0)/b
theorem Hz (a:List Int)(b:Int)(i:Nat)(h:i<a.length):JV a b i=(JV a b (i+1)*1000000000+a.getD i 0)%b:=by
 unfold JV;rw[Km a i h];rw[Int.add_comm,Int.mul_comm,Int.add_emod,Int.mul_emod]
 conv=>rhs;rw[Int.add_emod,Int.mul_emod,Int.emod_emod_of_dvd _ (Int.dvd_refl b)]
theorem Mk (a:List Int)(b:Int):JV a b a.length=0:=by unfold JV;simp[val]
theorem Ej {a:List Int}{b:Int}(ha:Jl a)(hb:0<b)(i:Nat):Q5 (An a b i):=by
 have h1:=Int.emod_nonneg (val (a.drop (i+1))) (show b≠0 by omega);have h2:=Int.emod_lt_of_pos (val (a.drop (i+1))) hb;have h3:=Jt ha i;unfold Q5 at *;unfold An JV;refine⟨Int.ediv_nonneg (by omega) (by omega),Int.ediv_lt_of_lt_mul hb ?_⟩;omega
theorem Wk {a:List Int}{b:Int}(hb:0<b):∀i,i≤a.length→val (a.drop (a.length-i))=b*val ((B5 (An a b) a.length).drop (a.length-i))+JV a b (a.length-i)
 |0,_=>by
  have e:(B5 (An a b) a.length).drop a.length=[]:=by rw[List.drop_eq_nil_iff,Qd];exact Nat.le_refl _
  simp[e,Mk,val]
 |i+1,h=>by
  have ih:=Wk (a:=a) hb i (by omega);obtain⟨k,hk⟩:∃k,a.length-(i+1)=k:=⟨_,rfl⟩
  have hk1:a.length-i=k+1:=by omega
  rw[hk1]at ih;rw[hk];rw[Km a k (by omega),Km (B5 (An a b) a.length) k (by rw[Qd];omega),CA _ _ _ (show k<a.length by omega)];have e:=Int.mul_ediv_add_emod (JV a b (k+1)*1000000000+a.getD k 0) b;have e2:=Hz a b k (by omega);have e3:An a b k=(JV a b (k+1)*1000000000+a.getD k 0)/b:=rfl;rw[←e3,←e2]at e;grind
theorem Pd {a:List Int}{b:Int}(hb:0<b):val a=b*val (B5 (An a b) a.length)+JV a b 0:=by
 have:=Wk (a:=a) hb a.length (Nat.le_refl _)
 simpa using this
def zA (z:Int):AV:=.agg [.bool (decide (z<0)),X8 (X9 z.natAbs)]
theorem XM (z:Int):Settled (zA z):=Qr (by simp[Xc,X5])
theorem qr:(!(true == false))=true:=Go.Ab.nrfl rfl
theorem qp:(!(false == true))=true:=Go.Ab.nrfl rfl
theorem qs:(!(true == true))=false:=Go.Ab.nrfl rfl
theorem qo:(!(false == false))=false:=Go.Ab.nrfl rfl
set_option linter.defProp false in
def wN:=XK qr (XK qp (XK qs qo))
def KC (neg:Bool)(v:Int):Int:=if neg=true then -v else v
theorem digs_len_zero {n:Nat}:(X9 n).length=0↔n=0:=by rw[List.length_eq_zero_iff,OQ]
theorem qt {l:List Int}(h:Jl l)(neg:Bool):zA (KC neg (val l))=.agg [.bool (neg && decide (As l l.length≠0)),X8 (l.take (As l l.length))]:=by
 have h0:=Q2 h;have e1:(KC neg (val l)).natAbs=(val l).toNat:=by unfold KC;split <;> omega
 have e2:=bU h;have hle:=WG l l.length;have e3:As l l.length=0↔val l=0:=by
  have h1:(l.take (As l l.length)).length=As l l.length:=by rw[List.length_take,Nat.min_eq_left hle]
  rw[←h1,e2,digs_len_zero];omega
 unfold zA;rw[e1,e2];congr 3;unfold KC;have h0':¬val l<0:=by omega
 cases neg
 ·simp[h0']
 ·have:-val l<0↔¬As l l.length=0:=by rw[e3];omega
  simp only[if_true,Bool.true_and,decide_eq_decide];exact this
theorem Ga {d:Nat}(h0:d≠0)(h:d<1000000000):X9 d=[(d:Int)]:=by
 rw[B9 h0,show d/1000000000=0 by omega,Qj,show d%1000000000=d by omega]
theorem R9 {d:Nat}(h0:1000000000≤d)(h:d<1000000000000000000):X9 d=[((d%1000000000:Nat):Int),((d/1000000000:Nat):Int)]:=by
 rw[B9 (by omega),Ga (by omega) (by omega)]
theorem U2 {d:Nat}(h0:1000000000000000000≤d)(h:d<18446744073709551616) :
  X9 d=[((d%1000000000:Nat):Int),((d/1000000000%1000000000:Nat):Int),((d/1000000000/1000000000:Nat):Int)]:=by
 rw[B9 (by omega),R9 (by omega) (by omega)]
def dg (l:List Int):Nat→Int:=fun i=>l.getD i 0
theorem Qc {l:List Int}(h:Jl l)(i:Nat):Q5 (dg l i):=Jt h i
theorem Hg {l:List Int}{i:Nat}(h:l.length≤i):dg l i=0:=by unfold dg;rw[List.getD_eq_getElem?_getD,List.getElem?_eq_none h];rfl
theorem Eu (l:List Int)(n:Nat)(h:l.length≤n):sm (dg l) n=val l:=tj l n h
def A8 (a b:List Int)(n:Nat):List Int:=B5 (Ay (dg a) (dg b)) n ++ [Qi (dg a) (dg b) n]
theorem NR (a b:List Int)(n:Nat)(ha:a.length≤n)(hb:b.length≤n):val (A8 a b n)=val a+val b:=by
 unfold A8;rw[Ez,Qd,GY,Ot,Eu a n ha,Eu b n hb]
theorem NQ {a b:List Int}(ha:Jl a)(hb:Jl b)(n:Nat):Jl (A8 a b n):=by
 unfold A8;refine Iu.2 ⟨Df fun i _=>PD (Qc ha i) (Qc hb i),KW.2 ⟨?_,Cg⟩⟩;have:=DX (dg a) (dg b) n;unfold Q5;omega
theorem ES (a b:List Int)(n:Nat):(A8 a b n).length=n+1:=by simp[A8,Qd]
def Zy (a b:List Int):List Int:=B5 (Bm (dg a) (dg b)) a.length
theorem BW {a b:List Int}(ha:Jl a)(hb:Jl b)(hl:b.length≤a.length)(h:val b≤val a):val (Zy a b)=val a-val b:=by
 unfold Zy;have e:=WA (n:=a.length) (fun i _=>Qc ha i) (fun i _=>Qc hb i) (by rw[Eu b _ hl,Eu a _ (Nat.le_refl _)];exact h);have e2:=Pj (dg a) (dg b) a.length;rw[e,Eu a _ (Nat.le_refl _),Eu b _ hl]at e2;rw[GY];omega
theorem BV {a b:List Int}(ha:Jl a)(hb:Jl b):Jl (Zy a b):=Df fun i _=>SO (Qc ha i) (Qc hb i)
def J6 (a b:List Int)(i:Nat):List Int:=B5 (fun j=>if j<i then Bm (dg a) (dg b) j else if j=i then dg a j-JM (dg a) (dg b) i else dg a j) a.length
theorem kp (l:List Int):B5 (dg l) l.length=l:=by
 refine List.ext_getElem (by simp[B5]) fun i h1 h2=>?_
 simp[B5,dg,List.getD_eq_getElem?_getD,h2]
theorem RH (a b:List Int):J6 a b 0=a:=by
 unfold J6
 conv=>rhs;rw[←kp a]
 refine KL fun k _=>?_
 rw[if_neg (by omega)]
 split
 ·simp[JM]
 ·rfl
theorem Us (a b:List Int):J6 a b a.length=Zy a b:=KL fun k hk=>by rw[if_pos hk]
theorem Bg (f:Nat→Int)(n k:Nat)(x:Int)(h:k<n):(B5 f n).set k x=B5 (fun q=>if q=k then x else f q) n:=by
 refine List.ext_getElem (by simp[B5]) fun q h1 h2=>?_
 have hq:q<n:=by simpa [Qd]using h2
 by_cases e:k=q
 ·subst e;simp[B5]
 ·simp[B5,List.getElem_set,e,Ne.symm e]
end
end Go.Ab.N
namespace Go.Ab.N
open Go Go.Ab
open Classical
noncomputable section
theorem ZR {l m:List AV}(h:WeakL l m):Weak (.agg l) (.agg m):=fun c v hv=>by
 cases hv with
 |agg vs _ hs hr =>
  have:=(kW h) c (.tuple vs) (.tup vs _ hs hr);cases this with
  |tup _ _ hs' hr'=>exact .agg vs m hs' hr'
theorem Qu (f:Nat→AV)(t:Bool):Weak (.sl 0 0 f t) (X8 []):=JK rfl (Nat.le_refl _) fun j hj=>by exact absurd hj (Nat.not_lt_zero j)
theorem BK {n:Nat}{L:List AV}{l:List Int}{t:Bool}(hn:n=l.length)(h:L=l.map I):Weak (.sl n n (Xf L) t) (X8 l):=by
 subst hn;subst h;exact kT l t
theorem Hd (L:List AV):∀n off,off+n=L.length→Qw (Xf L) off 0 n=L.drop off:=by
 have key:∀n off j,off+j+n=L.length→Qw (Xf L) off j n=L.drop (off+j):=by
  intro n
  induction n with
  |zero=>intro off j h;rw[List.drop_eq_nil_iff.2 (by omega)];rfl
  |succ n ih =>
   intro off j h;rw[List.drop_eq_getElem_cons (by omega)];simp only[Qw];rw[ih off (j+1) (by omega)];congr 1;show L.getD (off+j) .any=_;rw[List.getD_eq_getElem?_getD,List.getElem?_eq_getElem (by omega)];rfl
 intro n off h;rw[key n off 0 (by omega)];rfl
theorem Bl {P:Program}{fn:Func}{str hcs:List Nat}{r:AV}{s:AS}{t u id ver n:Nat}{L:List AV}(hr:fn.results=#[.cell t u])(hk:Cc P u=some (some n)) (hs:s.get t=.ref id ver 0)
  (ho:s.h[id]?=some (.row ver n (Xf L))) (hn:L.length=n) (h:Zs s.h (.agg L) r):RetOk (Ju P fn str hcs r) s:=by
 subst hn;refine GH (v:=.agg L) hr ?_ h;rw[hs,AR,hk,JZ,ho,K0,aO,Hd L _ _ (by omega)];simp[Q4]
theorem Q7 {P:Program}{fn:Func}{str hcs:List Nat}{r:AV}{s:AS}{t u id ver n:Nat}{L M:List AV}(hr:fn.results=#[.cell t u])(hk:Cc P u=some (some n)) (hs:s.get t=.ref id ver 0)
  (ho:s.h[id]?=some (.row ver n (Xf L))) (hn:L.length=n) (e:r=.agg M) (hset:Settled r) (h:WeakL L M):RetOk (Ju P fn str hcs r) s:=by
 refine Bl hr hk hs ho hn ?_;subst e;exact XF hset (ZR h)
end
end Go.Ab.N
namespace Go.Ab.N
open Go Go.RowKit Go.Proofs
theorem uX:Cc Tryz.prog 3=some none:=by kernel_rfl
theorem tC:KI Tryz.prog 3=some 1:=by kernel_rfl
theorem iw:VU Tryz.prog 3=some .i64:=by kernel_rfl
theorem tP:Q9 Tryz.prog 3=some [.int .i64 0]:=by kernel_rfl
theorem wd:Cc Tryz.prog 4=some none:=by kernel_rfl
theorem tD:KI Tryz.prog 4=some 1:=by kernel_rfl
theorem rA:Lf Tryz.prog 4=true:=by kernel_rfl
theorem tQ:Q9 Tryz.prog 4=some [.bool false]:=by kernel_rfl
theorem uV:Cc Tryz.prog 22=some none:=by kernel_rfl
theorem pc:KI Tryz.prog 22=some 1:=by kernel_rfl
theorem uJ:At Tryz.prog 22=some (3,1,8):=by kernel_rfl
theorem uW:Cc Tryz.prog 23=some none:=by kernel_rfl
theorem uK:At Tryz.prog 23=some (30,8,128):=by kernel_rfl
theorem XX:Cc Tryz.prog 26=some (some 2):=by kernel_rfl
theorem pf:KI Tryz.prog 26=some 2:=by kernel_rfl
theorem nd:BR Tryz.prog 26 0=some (0,1,none):=by kernel_rfl
theorem mg:Qv Tryz.prog 26 0=some (0,1):=by kernel_rfl
theorem ng:BR Tryz.prog 26 1=some (1,1,none):=by kernel_rfl
theorem mh:Qv Tryz.prog 26 1=some (1,1):=by kernel_rfl
theorem ut:Af Tryz.prog 26=true:=by kernel_rfl
theorem pE:Q9 Tryz.prog 26=some [.bool false,.sl 0 0 (fun _=>.any) true]:=by kernel_rfl
theorem XR:Cc Tryz.prog 28=some (some 4):=by kernel_rfl
theorem Pk:KI Tryz.prog 28=some 4:=by kernel_rfl
theorem nh:BR Tryz.prog 28 0=some (0,2,some 2):=by kernel_rfl
theorem mi:Qv Tryz.prog 28 0=some (0,2):=by kernel_rfl
theorem nl:BR Tryz.prog 28 1=some (2,2,some 2):=by kernel_rfl
theorem mj:Qv Tryz.prog 28 1=some (2,2):=by kernel_rfl
theorem uu:Af Tryz.prog 28=true:=by kernel_rfl
theorem H4:Q9 Tryz.prog 28=some [.bool false,.sl 0 0 (fun _=>.any) true,.bool false,.sl 0 0 (fun _=>.any) true]:=by kernel_rfl
theorem Jm:Cc Tryz.prog 30=some (some 8):=by kernel_rfl
theorem DJ:KI Tryz.prog 30=some 8:=by kernel_rfl
theorem nm:BR Tryz.prog 30 0=some (0,4,some 4):=by kernel_rfl
theorem ml:Qv Tryz.prog 30 0=some (0,4):=by kernel_rfl
theorem nn:BR Tryz.prog 30 1=some (4,4,some 4):=by kernel_rfl
theorem mm:Qv Tryz.prog 30 1=some (4,4):=by kernel_rfl
theorem uv:Af Tryz.prog 30=true:=by kernel_rfl
theorem pF:Q9 Tryz.prog 30=some [.bool false,.sl 0 0 (fun _=>.any) true,.bool false,.sl 0 0 (fun _=>.any) true,.bool false,.sl 0 0 (fun _=>.any) true,.bool false,.sl 0 0 (fun _=>.any) true]:=by kernel_rfl
theorem I0:Cc Tryz.prog 32=some (some 32):=by kernel_rfl
theorem Pl:KI Tryz.prog 32=some 32:=by kernel_rfl
theorem no:BR Tryz.prog 32 0=some (0,8,some 8):=by kernel_rfl
theorem mq:Qv Tryz.prog 32 0=some (0,8):=by kernel_rfl
theorem np:BR Tryz.prog 32 1=some (8,8,some 8):=by kernel_rfl
theorem mr:Qv Tryz.prog 32 1=some (8,8):=by kernel_rfl
theorem nq:BR Tryz.prog 32 2=some (16,8,some 8):=by kernel_rfl
theorem ms:Qv Tryz.prog 32 2=some (16,8):=by kernel_rfl
theorem nr:BR Tryz.prog 32 3=some (24,4,some 4):=by kernel_rfl
theorem mu:Qv Tryz.prog 32 3=some (24,4):=by kernel_rfl
theorem ns:BR Tryz.prog 32 4=some (28,4,some 4):=by kernel_rfl
theorem mv:Qv Tryz.prog 32 4=some (28,4):=by kernel_rfl
theorem uw:Af Tryz.prog 32=true:=by kernel_rfl
theorem pG:Q9 Tryz.prog 32=some [.bool false,.sl 0 0 (fun _=>.any) true,.bool false,.sl 0 0 (fun _=>.any) true,.bool false,.sl 0 0 (fun _=>.any) true,.bool false,.sl 0 0 (fun _=>.any) true,.bool false,.sl 0 0 (fun _=>.any) true,.bool false,.sl 0 0 (fun _=>.any) true,.bool false,.sl 0 0 (fun _=>.any) true,.bool false,.sl 0 0 (fun _=>.any) true,.bool false,.sl 0 0 (fun _=>.any) true,.bool false,.sl 0 0 (fun _=>.any) true,.bool false,.sl 0 0 (fun _=>.any) true,.bool false,.sl 0 0 (fun _=>.any) true,.bool false,.sl 0 0 (fun _=>.any) true,.bool false,.sl 0 0 (fun _=>.any) true,.bool false,.sl 0 0 (fun _=>.any) true,.bool false,.sl 0 0 (fun _=>.any) true]:=by kernel_rfl
theorem uL:At Tryz.prog 35=some (32,32,512):=by kernel_rfl
theorem VW:Cc Tryz.prog 43=some (some 20):=by kernel_rfl
theorem ph:KI Tryz.prog 43=some 20:=by kernel_rfl
theorem nt:BR Tryz.prog 43 0=some (0,8,some 8):=by kernel_rfl
theorem mw:Qv Tryz.prog 43 0=some (0,8):=by kernel_rfl
theorem nu:BR Tryz.prog 43 1=some (8,4,some 4):=by kernel_rfl
theorem my:Qv Tryz.prog 43 1=some (8,4):=by kernel_rfl
theorem nv:BR Tryz.prog 43 2=some (12,4,some 4):=by kernel_rfl
theorem mz:Qv Tryz.prog 43 2=some (12,4):=by kernel_rfl
theorem nw:BR Tryz.prog 43 3=some (16,4,some 4):=by kernel_rfl
theorem mA:Qv Tryz.prog 43 3=some (16,4):=by kernel_rfl
theorem ux:Af Tryz.prog 43=true:=by kernel_rfl
theorem pH:Q9 Tryz.prog 43=some [.bool false,.sl 0 0 (fun _=>.any) true,.bool false,.sl 0 0 (fun _=>.any) true,.bool false,.sl 0 0 (fun _=>.any) true,.bool false,.sl 0 0 (fun _=>.any) true,.bool false,.sl 0 0 (fun _=>.any) true,.bool false,.sl 0 0 (fun _=>.any) true,.bool false,.sl 0 0 (fun _=>.any) true,.bool false,.sl 0 0 (fun _=>.any) true,.bool false,.sl 0 0 (fun _=>.any) true,.bool false,.sl 0 0 (fun _=>.any) true]:=by kernel_rfl
theorem uM:At Tryz.prog 49=some (56,8,128):=by kernel_rfl
theorem nz:BR Tryz.prog 56 0=some (0,4,some 4):=by kernel_rfl
theorem mB:Qv Tryz.prog 56 0=some (0,4):=by kernel_rfl
theorem nA:BR Tryz.prog 56 1=some (4,4,some 4):=by kernel_rfl
theorem mC:Qv Tryz.prog 56 1=some (4,4):=by kernel_rfl
theorem uy:Af Tryz.prog 56=true:=by kernel_rfl
theorem pJ:Q9 Tryz.prog 56=some [.bool false,.sl 0 0 (fun _=>.any) true,.bool false,.sl 0 0 (fun _=>.any) true,.bool false,.sl 0 0 (fun _=>.any) true,.bool false,.sl 0 0 (fun _=>.any) true]:=by kernel_rfl
theorem qf:Cc Tryz.prog 85=some none:=by kernel_rfl
theorem pi:KI Tryz.prog 85=some 1:=by kernel_rfl
theorem fW:At Tryz.prog 85=some (131,5,88):=by kernel_rfl
theorem qg:Cc Tryz.prog 86=some none:=by kernel_rfl
theorem pj:KI Tryz.prog 86=some 1:=by kernel_rfl
theorem jW:HE Tryz.prog 86=true:=by kernel_rfl
theorem HO:At Tryz.prog 86=some (28,4,64):=by kernel_rfl
theorem pK:Q9 Tryz.prog 86=some [.sl 0 0 (fun _=>.any) true]:=by kernel_rfl
theorem iH:Cc Tryz.prog 88=some (some 3):=by kernel_rfl
theorem pk:KI Tryz.prog 88=some 3:=by kernel_rfl
theorem nC:BR Tryz.prog 88 0=some (0,1,none):=by kernel_rfl
theorem mD:Qv Tryz.prog 88 0=some (0,1):=by kernel_rfl
theorem nD:BR Tryz.prog 88 1=some (1,1,none):=by kernel_rfl
theorem nE:BR Tryz.prog 88 2=some (2,1,none):=by kernel_rfl
theorem mE:Qv Tryz.prog 88 2=some (2,1):=by kernel_rfl
theorem uz:Af Tryz.prog 88=true:=by kernel_rfl
theorem pL:Q9 Tryz.prog 88=some [.int .i64 0,.sl 0 0 (fun _=>.any) true,.sl 0 0 (fun _=>.any) true]:=by kernel_rfl
theorem qj:Cc Tryz.prog 91=some (some 7):=by kernel_rfl
theorem pm:KI Tryz.prog 91=some 7:=by kernel_rfl
theorem nF:BR Tryz.prog 91 0=some (0,1,none):=by kernel_rfl
theorem mF:Qv Tryz.prog 91 0=some (0,1):=by kernel_rfl
theorem nG:BR Tryz.prog 91 1=some (1,1,none):=by kernel_rfl
theorem mG:Qv Tryz.prog 91 1=some (1,1):=by kernel_rfl
theorem nH:BR Tryz.prog 91 2=some (2,1,none):=by kernel_rfl
theorem mH:Qv Tryz.prog 91 2=some (2,1):=by kernel_rfl
theorem nI:BR Tryz.prog 91 3=some (3,4,some 4):=by kernel_rfl
theorem mI:Qv Tryz.prog 91 3=some (3,4):=by kernel_rfl
theorem uA:Af Tryz.prog 91=true:=by kernel_rfl
theorem pM:Q9 Tryz.prog 91=some [.int .i64 0,.sl 0 0 (fun _=>.any) true,.sl 0 0 (fun _=>.any) true,.bool false,.sl 0 0 (fun _=>.any) true,.bool false,.sl 0 0 (fun _=>.any) true]:=by kernel_rfl
theorem Gl:Cc Tryz.prog 99=some (some 8):=by kernel_rfl
theorem po:KI Tryz.prog 99=some 8:=by kernel_rfl
theorem nJ:BR Tryz.prog 99 0=some (0,4,some 4):=by kernel_rfl
theorem mJ:Qv Tryz.prog 99 0=some (0,4):=by kernel_rfl
theorem nK:BR Tryz.prog 99 1=some (4,4,some 4):=by kernel_rfl
theorem mK:Qv Tryz.prog 99 1=some (4,4):=by kernel_rfl
theorem uB:Af Tryz.prog 99=true:=by kernel_rfl
theorem pN:Q9 Tryz.prog 99=some [.bool false,.sl 0 0 (fun _=>.any) true,.bool false,.sl 0 0 (fun _=>.any) true,.bool false,.sl 0 0 (fun _=>.any) true,.bool false,.sl 0 0 (fun _=>.any) true]:=by kernel_rfl
theorem iE:Cc Tryz.prog 101=some (some 16):=by kernel_rfl
theorem kv:KI Tryz.prog 101=some 16:=by kernel_rfl
theorem gy:BR Tryz.prog 101 0=some (0,8,some 8):=by kernel_rfl
theorem eW:Qv Tryz.prog 101 0=some (0,8):=by kernel_rfl
theorem gD:BR Tryz.prog 101 1=some (8,8,some 8):=by kernel_rfl
theorem eX:Qv Tryz.prog 101 1=some (8,8):=by kernel_rfl
theorem rs:Af Tryz.prog 101=true:=by kernel_rfl
theorem l8:Q9 Tryz.prog 101=some [.bool false,.sl 0 0 (fun _=>.any) true,.bool false,.sl 0 0 (fun _=>.any) true,.bool false,.sl 0 0 (fun _=>.any) true,.bool false,.sl 0 0 (fun _=>.any) true,.bool false,.sl 0 0 (fun _=>.any) true,.bool false,.sl 0 0 (fun _=>.any) true,.bool false,.sl 0 0 (fun _=>.any) true,.bool false,.sl 0 0 (fun _=>.any) true]:=by kernel_rfl
theorem rG:At Tryz.prog 105=some (108,24,384):=by kernel_rfl
theorem sc:Cc Tryz.prog 108=some (some 24):=by kernel_rfl
theorem kw:KI Tryz.prog 108=some 24:=by kernel_rfl
theorem gE:BR Tryz.prog 108 0=some (0,8,some 8):=by kernel_rfl
theorem eZ:Qv Tryz.prog 108 0=some (0,8):=by kernel_rfl
theorem gG:BR Tryz.prog 108 1=some (8,8,some 8):=by kernel_rfl
theorem f8:Qv Tryz.prog 108 1=some (8,8):=by kernel_rfl
theorem gH:BR Tryz.prog 108 2=some (16,8,some 8):=by kernel_rfl
theorem f9:Qv Tryz.prog 108 2=some (16,8):=by kernel_rfl
theorem rt:Af Tryz.prog 108=true:=by kernel_rfl
theorem l9:Q9 Tryz.prog 108=some [.bool false,.sl 0 0 (fun _=>.any) true,.bool false,.sl 0 0 (fun _=>.any) true,.bool false,.sl 0 0 (fun _=>.any) true,.bool false,.sl 0 0 (fun _=>.any) true,.bool false,.sl 0 0 (fun _=>.any) true,.bool false,.sl 0 0 (fun _=>.any) true,.bool false,.sl 0 0 (fun _=>.any) true,.bool false,.sl 0 0 (fun _=>.any) true,.bool false,.sl 0 0 (fun _=>.any) true,.bool false,.sl 0 0 (fun _=>.any) true,.bool false,.sl 0 0 (fun _=>.any) true,.bool false,.sl 0 0 (fun _=>.any) true]:=by kernel_rfl
theorem iF:Cc Tryz.prog 131=some (some 5):=by kernel_rfl
theorem ky:KI Tryz.prog 131=some 5:=by kernel_rfl
theorem gI:BR Tryz.prog 131 0=some (0,1,none):=by kernel_rfl
theorem PW:Qv Tryz.prog 131 0=some (0,1):=by kernel_rfl
theorem gJ:BR Tryz.prog 131 1=some (1,4,some 4):=by kernel_rfl
theorem PX:Qv Tryz.prog 131 1=some (1,4):=by kernel_rfl
theorem eU:Af Tryz.prog 131=true:=by kernel_rfl
theorem MF:Q9 Tryz.prog 131=some [.sl 0 0 (fun _=>.any) true,.bool false,.sl 0 0 (fun _=>.any) true,.bool false,.sl 0 0 (fun _=>.any) true]:=by kernel_rfl
theorem sd:Cc Tryz.prog 142=some none:=by kernel_rfl
theorem kz:KI Tryz.prog 142=some 1:=by kernel_rfl
theorem rH:At Tryz.prog 142=some (86,1,24):=by kernel_rfl
theorem iG:Cc Tryz.prog 145=some none:=by kernel_rfl
theorem kA:KI Tryz.prog 145=some 1:=by kernel_rfl
theorem lc:Q9 Tryz.prog 145=some [.nil]:=by kernel_rfl
theorem gK:BR Tryz.prog 148 0=some (0,1,none):=by kernel_rfl
theorem fe:Qv Tryz.prog 148 0=some (0,1):=by kernel_rfl
theorem gL:BR Tryz.prog 148 1=some (1,1,none):=by kernel_rfl
theorem ff:Qv Tryz.prog 148 1=some (1,1):=by kernel_rfl
theorem gM:BR Tryz.prog 148 2=some (2,1,none):=by kernel_rfl
theorem fh:Qv Tryz.prog 148 2=some (2,1):=by kernel_rfl
theorem gN:BR Tryz.prog 148 3=some (3,1,none):=by kernel_rfl
theorem gO:BR Tryz.prog 148 4=some (4,1,none):=by kernel_rfl
theorem gQ:BR Tryz.prog 148 5=some (5,1,none):=by kernel_rfl
theorem ru:Af Tryz.prog 148=true:=by kernel_rfl
theorem ld:Q9 Tryz.prog 148=some [.int .i64 0,.int .i64 0,.int .i64 0,.sl 0 0 (fun _=>.any) true,.sl 0 0 (fun _=>.any) true,.sl 0 0 (fun _=>.any) true]:=by kernel_rfl
theorem rI:At Tryz.prog 155=none:=by kernel_rfl
theorem fo:Qv Tryz.prog 155 0=some (0,1):=by kernel_rfl
theorem fp:Qv Tryz.prog 155 1=some (1,1):=by kernel_rfl
theorem ry:Af Tryz.prog 155=true:=by kernel_rfl
theorem rg:cG Tryz.prog 155=some (2,1,none):=by kernel_rfl
theorem lf:Q9 Tryz.prog 155=some [.int .i64 0,.int .i64 0]:=by kernel_rfl
theorem rJ:At Tryz.prog 156=some (155,2,16):=by kernel_rfl
theorem se:Cc Tryz.prog 172=some none:=by kernel_rfl
theorem kB:KI Tryz.prog 172=some 1:=by kernel_rfl
theorem lg:Q9 Tryz.prog 172=some [.nilfn]:=by kernel_rfl
theorem rY:VU Tryz.prog 185=some .u64:=by kernel_rfl
theorem sn:Cc Tryz.prog 198=some (some 3):=by kernel_rfl
theorem kC:KI Tryz.prog 198=some 3:=by kernel_rfl
theorem rK:At Tryz.prog 198=none:=by kernel_rfl
theorem fq:Qv Tryz.prog 198 0=some (0,1):=by kernel_rfl
theorem ft:Qv Tryz.prog 198 1=some (1,1):=by kernel_rfl
theorem fu:Qv Tryz.prog 198 2=some (2,1):=by kernel_rfl
theorem rz:Af Tryz.prog 198=true:=by kernel_rfl
theorem rh:cG Tryz.prog 198=some (3,1,none):=by kernel_rfl
theorem lh:Q9 Tryz.prog 198=some [.int .i64 0,.int .i64 0,.int .i64 0]:=by kernel_rfl
theorem rL:At Tryz.prog 199=some (198,3,24):=by kernel_rfl
theorem rZ:VU Tryz.prog 214=some .u64:=by kernel_rfl
theorem mixed:Tryz.prog.follows .mixedOrders=true:=by kernel_rfl
theorem Fq {f:FuncId}{fn:Func}{body:Code}{args:List AV}{r:AV}(he:BL Tryz.prog f)(hf:Tryz.prog.funcs[f]?=some fn)(n0:Nat)(hid str hcs:List Nat)(hs:∀ a∈args,Settled a)(h:Run (Ju Tryz.prog fn str hcs r) [.code body] (AS.start n0 hid args [])) (hb:fn.body=some body:=by rfl) (hok:QC fn.ntmps str hcs body=true:=by kernel_rfl) (hlen:args.length≤fn.ntmps:=by exact Nat.le_of_ble_eq_true rfl):Fn Tryz.prog f args r:=Fn.intro he hf hb mixed n0 hid str hcs hok hlen hs h
set_option linter.defProp false in
def Pp:=XK @uX <| XK @tC <| XK @iw <| XK @tP <| XK @wd <| XK @tD <| XK @rA <| XK @tQ <| XK @uV <| XK @pc <| XK @uJ <| XK @uW <| XK @uK <| XK @XX <| XK @pf <| XK @nd <| XK @mg <| XK @ng <| XK @mh <| XK @ut <| XK @pE <| XK @XR <| XK @Pk <| XK @nh <| XK @mi <| XK @nl <| XK @mj <| XK @uu <| XK @H4 <| XK @Jm <| XK @DJ <| XK @nm <| XK @ml <| XK @nn <| XK @mm <| XK @uv <| XK @pF <| XK @I0 <| XK @Pl <| XK @no <| XK @mq <| XK @np <| XK @mr <| XK @nq <| XK @ms <| XK @nr <| XK @mu <| XK @ns <| XK @mv <| XK @uw <| XK @pG <| XK @uL <| XK @VW <| XK @ph <| XK @nt <| XK @mw <| XK @nu <| XK @my <| XK @nv <| XK @mz <| XK @nw <| XK @mA <| XK @ux <| XK @pH <| XK @uM <| XK @nz <| XK @mB <| XK @nA <| XK @mC <| XK @uy <| XK @pJ <| XK @qf <| XK @pi <| XK @fW <| XK @qg <| XK @pj <| XK @jW <| XK @HO <| XK @pK <| XK @iH <| XK @pk <| XK @nC <| XK @mD <| XK @nD <| XK @nE <| XK @mE <| XK @uz <| XK @pL <| XK @qj <| XK @pm <| XK @nF <| XK @mF <| XK @nG <| XK @mG <| XK @nH <| XK @mH <| XK @nI <| XK @mI <| XK @uA <| XK @pM <| XK @Gl <| XK @po <| XK @nJ <| XK @mJ <| XK @nK <| XK @mK <| XK @uB <| XK @pN <| XK @iE <| XK @kv <| XK @gy <| XK @eW <| XK @gD <| XK @eX <| XK @rs <| XK @l8 <| XK @rG <| XK @sc <| XK @kw <| XK @gE <| XK @eZ <| XK @gG <| XK @f8 <| XK @gH <| XK @f9 <| XK @rt <| XK @l9 <| XK @iF <| XK @ky <| XK @gI <| XK @PW <| XK @gJ <| XK @PX <| XK @eU <| XK @MF <| XK @sd <| XK @kz <| XK @rH <| XK @iG <| XK @kA <| XK @lc <| XK @gK <| XK @fe <| XK @gL <| XK @ff <| XK @gM <| XK @fh <| XK @gN <| XK @gO <| XK @gQ <| XK @ru <| XK @ld <| XK @rI <| XK @fo <| XK @fp <| XK @ry <| XK @rg <| XK @lf <| XK @rJ <| XK @se <| XK @kB <| XK @lg <| XK @rY <| XK @sn <| XK @kC <| XK @rK <| XK @fq <| XK @ft <| XK @fu <| XK @rz <| XK @rh <| XK @lh <| XK @rL <| @rZ
set_option linter.defProp false in
def wA:=XK @vK <| XK @vJ <| XK @vI <| XK @beq_self_eq_true.{0} <| XK @ite_true.{1} <| XK @ite_false.{1} <| XK @false_implies <| XK @true_implies <| XK @implies_true.{1} <| XK @implies_true.{0} <| XK @eq_self.{1} <| XK @ne_eq.{1} <| @Pp
theorem Xk {X:Env}{k:List Item}{s:AS}(h:QI (CD s) fun s=>vc X 1000 k s):Run X k s:=XG 1000 h
theorem BA {m:Nat}{s s':AS}(h3:Xm s.sl s'.sl)(h5:s.h=s'.h)(h1:s'.n0=s.n0:=by rfl)(h4:Xw s.tm s'.tm:=by simp[Xw]):Sub m s s':=Xi h1 h3 h4 h5
theorem ta {b m:Nat}{s s':AS}(h3:Xm s.sl s'.sl)(h5:s.h.take m=s'.h)(h6:∀ a∈s'.sl,Jq m a)(h8:∀ o∈s'.h,Qa m o)(h7:∀ p∈s'.tm,Jq m p.2:=by simp [XW])(h4:Xw s.tm s'.tm:=by simp [Xw])(h1:s'.n0=s.n0:=by rfl)(hbm:b≤m:=by exact Nat.zero_le _):Sub b s s':=XT hbm h1 h3 h4 h5 h6 h7 h8
end Go.Ab.N
namespace Go.Ab.N
open Go Go.RowKit Go.Proofs
noncomputable section
set_option maxRecDepth 10000
set_option maxHeartbeats 2000000
open Classical
def je (neg:Bool)(l:List Int):AV:=.agg [.bool (neg && decide (As l l.length≠0)),X8 (l.take (As l l.length))]
theorem Kr (neg:Bool)(l:List Int):Settled (je neg l):=Qr (by simp[Xc,X5])
theorem v7 (neg:Bool)(d:List Int)(hl:d.length<4611686018427387904):Fn Tryz.prog 182 [.bool neg,X8 d] (je neg d):=by
 refine Fq Tryz.call182 Tryz.func182 6 [] [] [] (by simp[Xc,Xb,Ko,JA,X5,Kq,XM,Kr,Jp]) (Xk ?_);simp(maxSteps:=999999)only[AS.start,↓X4,wA,seval,zA,wN];refine Xj (fun n:Nat=>⟨6,[],[.bool neg,X8 d,.any,.any,.ref 0 0 0,I n],[],[.row 0 2 (Xf [.bool false,.sl 0 0 (fun _=>.any) true])]⟩) (fun n=>n≤d.length∧As d d.length=As d n) (fun n=>n) d.length ⟨by omega,rfl⟩
  (BA (by simp[zA,wN,Xm,X8,CP,Cf,Qs,I]) rfl) ?_
 rintro n ⟨hn,ht⟩ next
 cases n with
 |zero =>
  refine Xk ?_;simp only[Int.lt_irrefl,↓X4,wA,seval,zA,wN];refine GH (v:=.agg [.bool false,.sl 0 0 (fun _=>.any) false]) rfl (by simp[AS.get,Qm,XX,rd,Qw,Xf,Eh]) ?_;have e:je neg d=.agg [.bool false,X8 []]:=by unfold je;rw[ht];simp[As]
  rw[e];exact Eo ⟨Q1 (X5 _) rfl,XF (Xc _) (Qu _ _),trivial⟩
 |succ n =>
  have e0:(0<((n+1:Nat):Int))=True:=eq_true (by omega);have e1:(((n+1:Nat):Int)=0)=False:=eq_false (by omega);have w1:IntKind.i64.wrap (((n+1:Nat):Int)-1)=(n:Int):=by rw[IntKind.wrap_i64];omega
  have e2:(n<d.length)=True:=eq_true (by omega);refine Xk ?_;simp only[e0,e1,e2,w1,↓X4,wA,seval,zA,wN];refine⟨fun h0=>next n _ ⟨by omega,by rw[ht];simp only[As];rw[if_pos h0]⟩ (by omega) (BA (by simp[zA,wN,Xm,X8,CP,Cf,Qs,I]) rfl),fun h0=>⟨by omega,?_⟩⟩;have ht2:As d d.length=n+1:=by rw[ht];simp only[As];rw[if_neg h0]
  have e:je neg d=.agg [.bool neg,X8 (d.take (n+1))]:=by unfold je;rw[ht2];simp
  have hlen:(d.take (n+1)).length=n+1:=by rw[List.length_take];omega
  rw[e];refine GH (v:=.agg [.bool neg,.sl (n+1) (n+1) (fun j=>.int .i64 (d.getD j 0)) false]) rfl ?_ ?_
  ·have m1:min (n+1) d.length=n+1:=by omega
   simp[AS.get,Qm,XX,rd,Qw,Xf,Eh,m1]
  ·refine Eo ⟨Q1 (X5 _) rfl,XF (Xc _) (GZ _ hlen.symm (by omega) fun j hj=>?_),trivial⟩
   rw[hlen]at hj;rw[BF d 0 j (n+1) hj];rfl
set_option linter.defProp false in
def Kc:=XK @Xc (XK @Xb (XK @Ko (XK @JA (XK @X5 (XK @Kq (XK @XM (XK @Kr @Jp)))))))
theorem l6 (neg:Bool){u:Int}(h:0≤u):zA (KC neg u)=.agg [.bool (neg && decide (u≠0)),X8 (X9 u.toNat)]:=by
 unfold zA;have e1:(KC neg u).natAbs=u.toNat:=by unfold KC;split <;> omega
 rw[e1];congr 3;unfold KC;have h0':¬u<0:=by omega
 cases neg
 ·simp[h0']
 ·have:-u<0↔¬u=0:=by omega
  simp only[if_true,Bool.true_and,decide_eq_decide,ne_eq];exact this
def U (n:Int):AV:=.int .u64 n
theorem Z9 (neg:Bool)(u:Int)(h0:0≤u)(h1:u<18446744073709551616):Fn Tryz.prog 181 [.bool neg,.int .u64 u] (zA (KC neg u)):=by
 obtain⟨R,hR⟩:∃R,R=zA (KC neg u):=⟨_,rfl⟩
 have eR:=hR.trans (l6 neg h0);have sR:Settled R:=hR▸XM _;have b1:u≠0→(neg && decide (u≠0))=neg:=fun h=>by simp[h]
 have w1:IntKind.i64.wrap (u.tmod 1000000000)=u%1000000000:=by rw[IntKind.wrap_i64,Int.tmod_eq_emod_of_nonneg h0];omega
 have w2:IntKind.u64.wrap (u.tdiv 1000000000)=u/1000000000:=by rw[IntKind.wrap_u64,Int.tdiv_eq_ediv_of_nonneg h0];omega
 have h2:0≤u/1000000000:=by omega
 have w3:IntKind.i64.wrap (u/1000000000)=u/1000000000:=by rw[IntKind.wrap_i64];omega
 have w4:IntKind.i64.wrap ((u/1000000000).tmod 1000000000)=u/1000000000%1000000000:=by rw[IntKind.wrap_i64,Int.tmod_eq_emod_of_nonneg h2];omega
 have w5:IntKind.u64.wrap ((u/1000000000).tdiv 1000000000)=u/1000000000/1000000000:=by rw[IntKind.wrap_u64,Int.tdiv_eq_ediv_of_nonneg h2];omega
 have w6:IntKind.i64.wrap (u/1000000000/1000000000)=u/1000000000/1000000000:=by rw[IntKind.wrap_i64];omega
 rw[←hR];refine Fq Tryz.call181 Tryz.func181 6 [] [] [] (by simp[Kc]) (Xk ?_);simp(maxSteps:=999999)only[AS.start,↓X4,wA,↓reduceIte,reduceIte,reduceCtorEq,Y1,Y2,Y3,Y4,Y5,Y6,Y7,Y8,Y9,YA,zA,wN];simp only[w1,w2,w3,w4,w5,w6];refine⟨fun a=>?_,fun a0=>⟨fun a1=>?_,fun a1=>⟨fun a2=>⟨by omega,by omega,?_⟩,fun a2=>⟨by omega,by omega,by omega,by omega,by omega,?_⟩⟩⟩⟩
 ·rw[a,show(neg && decide ((0:Int)≠0))=false by simp,show(0:Int).toNat=0 from rfl,Qj]at eR
  exact Q7 rfl XX rfl rfl rfl eR sR ⟨Weak.rfl' _,Qu _ _,trivial⟩
 ·have w0:IntKind.i64.wrap u=u:=by rw[IntKind.wrap_i64];omega
  rw[b1 a0,Ga (by omega) (by omega),Int.toNat_of_nonneg h0]at eR;rw[w0];exact Q7 rfl XX rfl rfl rfl eR sR ⟨Weak.rfl' _,BK rfl rfl,trivial⟩
 ·rw[b1 a0,R9 (by omega) (by omega)]at eR
  have e1:((u.toNat%1000000000:Nat):Int)=u%1000000000:=by omega
  have e2:((u.toNat/1000000000:Nat):Int)=u/1000000000:=by omega
  rw[e1,e2]at eR;exact Q7 rfl XX rfl rfl rfl eR sR ⟨Weak.rfl' _,BK rfl rfl,trivial⟩
 ·rw[b1 a0,U2 (by omega) (by omega)]at eR
  have e1:((u.toNat%1000000000:Nat):Int)=u%1000000000:=by omega
  have e2:((u.toNat/1000000000%1000000000:Nat):Int)=u/1000000000%1000000000:=by omega
  have e3:((u.toNat/1000000000/1000000000:Nat):Int)=u/1000000000/1000000000:=by omega
  rw[e1,e2,e3]at eR;exact Q7 rfl XX rfl rfl rfl eR sR ⟨Weak.rfl' _,BK rfl rfl,trivial⟩
theorem P4 (z:Int):Fn Tryz.prog 187 [zA z] (zA (-z)):=by
 have e:(-z).natAbs=z.natAbs:=by omega
 have e0:z.natAbs=0↔z=0:=by omega
 have e1:(X9 z.natAbs).length=0↔z=0:=digs_len_zero.trans e0;refine Fq Tryz.call187 Tryz.func187 3 [] [] [] (by simp[Kc]) (Xk ?_);simp(maxSteps:=999999)only[AS.start,↓X4,wA,↓reduceIte,reduceIte,reduceCtorEq,Y1,Y2,Y3,Y4,Y5,Y6,Y7,Y8,Y9,YA,zA,wN];refine⟨fun h=>Q7 rfl XX rfl rfl rfl rfl (XM _) ?_,fun h=>Q7 rfl XX rfl rfl rfl rfl (XM _) ?_⟩
 ·rw[e]
  have:decide (-z<0)=decide (0<((X9 z.natAbs).length:Int)):=by rw[decide_eq_decide];omega
  rw[this];exact⟨Weak.rfl' _,Weak.rfl' _,trivial⟩
 ·rw[e,show decide (-z<0)=false from decide_eq_false (by omega)]
  exact⟨Weak.rfl' _,Weak.rfl' _,trivial⟩
theorem oS (z:Int):Fn Tryz.prog 191 [zA z] (I z.sign):=by
 have e0:z.natAbs=0↔z=0:=by omega
 have e1:(X9 z.natAbs).length=0↔z=0:=digs_len_zero.trans e0;refine Fq Tryz.call191 Tryz.func191 4 [] [] [] (by simp[Kc]) (Xk ?_);simp(maxSteps:=999999)only[AS.start,↓X4,wA,↓reduceIte,reduceIte,reduceCtorEq,Y1,Y2,Y3,Y4,Y5,Y6,Y7,Y8,Y9,YA,zA,wN];refine⟨fun h=>Xo rfl rfl (Xb _) ?_,fun h=>⟨fun h2=>Xo rfl rfl (Xb _) ?_,fun h2=>Xo rfl rfl (Xb _) ?_⟩⟩
 ·rw[Int.sign_eq_neg_one_of_neg h];rfl
 ·rw[e1.1 (by omega)];rfl
 ·rw[Int.sign_eq_one_of_pos (by omega)];rfl
theorem Pm (d:List Int)(h:Jl d):Fn Tryz.prog 223 [X8 d] (.tup [I (if d.length≤2 then val d else 0),.bool (decide (d.length≤2))]):=by
 have k2:¬d.length≤2→I 0=I (if d.length≤2 then val d else 0)∧AV.bool false=.bool (decide (d.length≤2)):=fun h=>by simp[h]
 have k1:d.length≤2→∀x,x=val d→I x=I (if d.length≤2 then val d else 0)∧AV.bool true=.bool (decide (d.length≤2)):=fun h x hx=>by simp[h,hx]
 refine Fq Tryz.call223 Tryz.func223 4 [5] [] [] (by simp[Kc]) (Xk ?_);simp(maxSteps:=999999)only[AS.start,↓X4,wA,↓reduceIte,reduceIte,reduceCtorEq,Y1,Y2,Y3,Y4,Y5,Y6,Y7,Y8,Y9,YA,zA,wN];have fin:∀ {s:AS} {x:Int},s.get 2=I x→s.get 3=.bool true→d.length≤2→x=val d→RetOk (Ju Tryz.prog Tryz.f223 [] [] (.tup [I (if d.length≤2 then val d else 0),.bool (decide (d.length≤2))])) s:=fun h1 h2 hl hx =>
  jC rfl h1 h2 (Xb _) (X5 _) (k1 hl _ hx).1 (k1 hl _ hx).2
 refine⟨fun a=>fin rfl rfl (by omega) ?_,fun a0=>⟨fun a=>⟨by omega,by omega,fin rfl rfl (by omega) ?_⟩,fun a1=>⟨fun a=>⟨⟨by omega,by omega⟩,by omega,by omega,by omega,fin rfl rfl (by omega) ?_⟩,fun a2=>jC rfl rfl rfl (Xb _) (X5 _) (k2 (by omega)).1 (k2 (by omega)).2⟩⟩⟩
 ·obtain rfl:d=[]:=List.length_eq_zero_iff.1 (by omega)
  rfl
 ·obtain⟨x,rfl⟩:=List.length_eq_one_iff.1 (show d.length=1 by omega)
  simp[val]
 ·obtain⟨x,y,rfl⟩:∃x y,d=[x,y]:=by
   match d,a with
   | [x,y],_=>exact⟨x,y,rfl⟩
   | [],h=>exact absurd h (by simp)
   | [_],h=>exact absurd h (by simp)
   |_ :: _ :: _ :: _,h=>exact absurd h (by simp;omega)
  have h1:=h x (by simp);have h2:=h y (by simp);unfold Q5 at h1 h2;simp only[List.getD_cons_zero,List.getD_cons_succ,val,IntKind.wrap_i64];omega
theorem Ry (a:Int):Fn Tryz.prog 240 [I a] (.bool false):=by
 refine Fq Tryz.call240 Tryz.func240 3 [] [] [] (by simp[Kc]) (Xk ?_);simp(maxSteps:=999999)only[AS.start,↓X4,wA,↓reduceIte,reduceIte,reduceCtorEq,Y1,Y2,Y3,Y4,Y5,Y6,Y7,Y8,Y9,YA,zA,wN];exact Xo rfl rfl (X5 _) rfl
theorem Vv (a b:Int):Fn Tryz.prog 225 [I a,I b] (I (a-b).sign):=by
 refine Fq Tryz.call225 Tryz.func225 7 [] [] [] (by simp[Kc]) (Xk ?_);simp(maxSteps:=999999)only[AS.start,↓X4,wA,↓reduceIte,reduceIte,reduceCtorEq,Y1,Y2,Y3,Y4,Y5,Y6,Y7,Y8,Y9,YA,zA,wN];refine X1 (Ry a) rfl ?_;simp only[↓X4,wA,↓reduceIte,reduceIte,reduceCtorEq,Y1,Y2,Y3,Y4,Y5,Y6,Y7,Y8,Y9,YA,zA,wN];refine X1 (Ry b) rfl ?_;simp only[↓X4,wA,↓reduceIte,reduceIte,reduceCtorEq,Y1,Y2,Y3,Y4,Y5,Y6,Y7,Y8,Y9,YA,zA,wN];refine⟨fun h=>Xo rfl rfl (Xb _) ?_,fun h=>⟨fun h2=>Xo rfl rfl (Xb _) ?_,fun h2=>Xo rfl rfl (Xb _) ?_⟩⟩
 ·rw[Int.sign_eq_neg_one_of_neg (by omega)];rfl
 ·rw[Int.sign_eq_one_of_pos (by omega)];rfl
 ·rw[show a-b=0 by omega];rfl
theorem fG {a b:List Int}(ha:Jl a)(hb:Jl b)(hl:a.length=b.length){i:Nat}(hi:i<a.length)(he:a.drop (i+1)=b.drop (i+1)) (hne:a.getD i 0≠b.getD i 0) :
  (val a-val b).sign=(a.getD i 0-b.getD i 0).sign:=by
 rw[Jr a i (by omega),Jr b i (by omega),Km a i hi,Km b i (by omega),he];have h1:=Q2 (QF ha i);have h2:=Q2 (QF hb i);have h3:=ZC (QF ha i);have h4:=ZC (QF hb i);have e1:(a.take i).length=i:=by rw[List.length_take];omega
 have e2:(b.take i).length=i:=by rw[List.length_take];omega
 rw[e1]at h3;rw[e2]at h4;generalize val (a.take i)=p at *;generalize val (b.take i)=q at *;generalize val (b.drop (i+1))=r at *;generalize a.getD i 0=x at *;generalize b.getD i 0=y at *;have hp:=Jn i;generalize pw i=P at *;have e:p+P*(x+1000000000*r)-(q+P*(y+1000000000*r))=(p-q)+P*(x-y):=by grind
 rw[e];rcases Int.lt_or_gt_of_ne hne with h |h
 ·rw[Int.sign_eq_neg_one_of_neg (show x-y<0 by omega)]
  have:P*(x-y)≤P*(-1):=Int.mul_le_mul_of_nonneg_left (by omega) (by omega);exact Int.sign_eq_neg_one_of_neg (by omega)
 ·rw[Int.sign_eq_one_of_pos (show 0<x-y by omega)]
  have:P*1≤P*(x-y):=Int.mul_le_mul_of_nonneg_left (by omega) (by omega);exact Int.sign_eq_one_of_pos (by omega)
theorem E0 {a b:List Int}(ha:Ai a)(hb:Ai b)(h:a.length<b.length):val a<val b:=by
 have h1:=ZC ha.1;have hne:b≠[]:=fun e=>by rw[e]at h;simp at h
 have h2:=CK hb hne;have h3:=Cl (show a.length≤b.length-1 by omega);omega
theorem Gc {a b:List Int}(hl:a.length=b.length){i:Nat}(hi:i<a.length)(he:a.drop (i+1)=b.drop (i+1)) (h:a.getD i 0=b.getD i 0):a.drop i=b.drop i:=by
 have hi2:i<b.length:=by omega
 rw[List.drop_eq_getElem_cons hi,List.drop_eq_getElem_cons hi2,he];rw[List.getD_eq_getElem?_getD,List.getElem?_eq_getElem hi,List.getD_eq_getElem?_getD,List.getElem?_eq_getElem hi2]at h;simp only[Option.getD_some]at h;rw[h]
theorem Db (a b:List Int)(ha:Ai a)(hb:Ai b)(la:a.length<4611686018427387904):Fn Tryz.prog 189 [X8 a,X8 b] (I (val a-val b).sign):=by
 have hc:a.length≠b.length→Fn Tryz.prog 225 [I a.length,I b.length] (I (val a-val b).sign):=fun h=>by
  have e:((a.length:Int)-b.length).sign=(val a-val b).sign:=by
   rcases Nat.lt_or_gt_of_ne h with h' |h'
   ·have:=E0 ha hb h'
    rw[Int.sign_eq_neg_one_of_neg (by omega),Int.sign_eq_neg_one_of_neg (by omega)]
   ·have:=E0 hb ha h'
    rw[Int.sign_eq_one_of_pos (by omega),Int.sign_eq_one_of_pos (by omega)]
  rw[←e];exact Vv _ _
 refine Fq Tryz.call189 Tryz.func189 6 [] [] [] (by simp[Kc]) (Xk ?_);simp(maxSteps:=999999)only[AS.start,↓X4,wA,seval,zA,wN];refine⟨fun h=>X1 (hc h) rfl ?_,fun hl=>?_⟩
 ·simp only[↓X4,wA,seval,zA,wN]
  exact Xo rfl rfl (Xb _) rfl
 refine Xj (fun k:Nat=>⟨6,[],[X8 a,X8 b,.any,.any,I 0,I ((k:Int)-1)],[],[]⟩) (fun k=>k≤a.length∧a.drop k=b.drop k) (fun k=>k) a.length ⟨by omega,by rw[List.drop_length,hl,List.drop_length]⟩
  ?_ ?_
 ·have w0:IntKind.i64.wrap ((a.length:Int)-1)=(a.length:Int)-1:=by rw[IntKind.wrap_i64];omega
  rw[w0];exact(BA (by simp[zA,wN,Xm,X8,CP,Cf,Qs,I]) rfl)
 rintro k ⟨hk,he⟩ next
 cases k with
 |zero =>
  refine Xk ?_;have e0:(0≤((0:Nat):Int)-1)=False:=eq_false (by omega);have e1:((0:Int)≤0-1)=False:=eq_false (by omega);simp only[e0,e1,↓X4,wA,seval,zA,wN];refine Xo rfl rfl (Xb _) ?_;rw[List.drop_zero,List.drop_zero]at he;rw[he,Int.sub_self];rfl
 |succ k =>
  have e1:((k+1:Nat):Int)-1=(k:Int):=by omega
  have w1:IntKind.i64.wrap ((k:Int)-1)=(k:Int)-1:=by rw[IntKind.wrap_i64];omega
  have e2:((k:Int)<a.length)=True:=eq_true (by omega);have e3:(k<a.length)=True:=eq_true (by omega);have e4:(k<b.length)=True:=eq_true (by omega);have hcm:a.getD k 0≠b.getD k 0→Fn Tryz.prog 225 [I (a.getD k 0),I (b.getD k 0)] (I (val a-val b).sign):=fun h=>by
   rw[fG ha.1 hb.1 hl (by omega) he h];exact Vv _ _
  refine Xk ?_;simp only[e1,w1,e3,e4,↓X4,wA,seval,zA,wN];refine⟨fun h=>X1 (hcm h) rfl ?_,fun h=>next k _ ⟨by omega,Gc hl (by omega) he h⟩ (by omega) (BA (by simp[zA,wN,Xm,X8,CP,Cf,Qs,I]) rfl)⟩;simp only[↓X4,wA,seval,zA,wN];exact Xo rfl rfl (Xb _) rfl
theorem FJ (n:Int)(h:BS n):Fn Tryz.prog 112 [I n] (zA n):=by
 obtain⟨R,hR⟩:∃R,R=zA n:=⟨_,rfl⟩
 have sR:Settled R:=hR▸XM _;unfold BS at h;have c1:n<0→Fn Tryz.prog 181 [.bool (decide (n<0)),.int .u64 (IntKind.u64.wrap (0-IntKind.u64.wrap n))] R:=fun h1=>by
  have e:IntKind.u64.wrap (0-IntKind.u64.wrap n) = -n:=by rw[IntKind.wrap_u64,IntKind.wrap_u64];omega
  have e2:KC (decide (n<0)) (-n)=n:=by unfold KC;rw[if_pos (decide_eq_true h1)];omega
  have:=Z9 (decide (n<0)) (-n) (by omega) (by omega);rw[e2]at this;rw[e,hR];exact this
 have c2:¬n<0→Fn Tryz.prog 181 [.bool (decide (n<0)),.int .u64 (IntKind.u64.wrap n)] R:=fun h1=>by
  have e:IntKind.u64.wrap n=n:=by rw[IntKind.wrap_u64];omega
  have e2:KC (decide (n<0)) n=n:=by unfold KC;rw[if_neg (by simp;omega)]
  have:=Z9 (decide (n<0)) n (by omega) (by omega);rw[e2]at this;rw[e,hR];exact this
 rw[←hR];refine Fq Tryz.call112 Tryz.func112 4 [] [] [] (by simp[Kc]) (Xk ?_);simp(maxSteps:=999999)only[AS.start,↓X4,wA,seval,zA,wN];refine⟨fun h1=>X1 (c1 h1) rfl ?_,fun h1=>X1 (c2 h1) rfl ?_⟩
 ·simp only[hR,↓X4,wA,seval,zA,wN]
  exact Q7 rfl XX rfl rfl rfl hR sR ⟨Weak.rfl' _,Weak.rfl' _,trivial⟩
 ·simp only[hR,↓X4,wA,seval,zA,wN]
  exact Q7 rfl XX rfl rfl rfl hR sR ⟨Weak.rfl' _,Weak.rfl' _,trivial⟩
end
end Go.Ab.N
