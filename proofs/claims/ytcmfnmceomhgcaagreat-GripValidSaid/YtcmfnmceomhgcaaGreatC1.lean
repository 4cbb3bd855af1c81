/- Contracts of functions, for every argument that fits. -/
import Derived.Test.YtcmfnmceomhgcaaGreatAb4
import Derived.Test.YtcmfnmceomhgcaaGreatRows
import Derived.KernelRfl
open And renaming intro → XB
set_option linter.unusedSimpArgs false
set_option linter.unusedVariables false
open Nat renaming reducePow → Y1, reduceLT → Y2, reduceLeDiff → Y3, reduceEqDiff → Y4, reduceAdd → Y5, reduceMul → Y6, reduceSub → Y7, reduceBEq → Y8, reduceDiv → Y9, reduceMod → YA
namespace Go.Ab.N
open Go.Ab
open Classical
noncomputable section
def pw:Nat→Int
 |0=>1
 |n+1=>1000000000*pw n
theorem Jk:∀n,0<pw n
 |0=>by simp[pw]
 |n+1=>by have:=Jk n;simp only[pw];omega
theorem Ds (m n:Nat):pw (m+n)=pw m*pw n:=by
 induction m with
 |zero=>simp[pw]
 |succ m ih=>rw[show m+1+n=(m+n)+1 by omega];simp only[pw];rw[ih,Int.mul_assoc]
theorem Cj {m n:Nat}(h:m≤n):pw m≤pw n:=by
 obtain⟨k,rfl⟩:=Nat.exists_eq_add_of_le h
 induction k with
 |zero=>exact Int.le_refl _
 |succ k ih =>
  have h1:=ih (by omega);have h2:=Jk (m+k);rw[show m+(k+1)=(m+k)+1 by omega];simp only[pw];omega
def val:List Int→Int
 | []=>0
 |d :: l=>d+1000000000*val l
def Q7 (d:Int):Prop:=0≤d∧d<1000000000
def Ji (l:List Int):Prop:=∀d∈l,Q7 d
def Af (l:List Int):Prop:=Ji l∧(l≠[]→l.getD (l.length-1) 0≠0)
theorem Cd:Ji []:=fun _ h=>by cases h
theorem Z0 {d:Int}{l:List Int}:Ji (d :: l)↔Q7 d∧Ji l:=by unfold Ji;simp
theorem Iu {l m:List Int}:Ji (l ++ m)↔Ji l∧Ji m:=by
 unfold Ji;constructor
 ·exact fun h=>⟨fun d hd=>h d (List.mem_append_left _ hd),fun d hd=>h d (List.mem_append_right _ hd)⟩
 ·rintro⟨h1,h2⟩ d hd
  rcases List.mem_append.1 hd with h |h
  ·exact h1 d h
  ·exact h2 d h
theorem Ju {l:List Int}(h:Ji l)(i:Nat):Q7 (l.getD i 0):=by
 by_cases hi:i<l.length
 ·exact h _ (Gd hi)
 ·rw[List.getD_eq_getElem?_getD,List.getElem?_eq_none (by omega)];exact⟨by simp,by simp⟩
theorem QD {l:List Int}(h:Ji l)(n:Nat):Ji (l.take n):=fun d hd=>h d (List.mem_of_mem_take hd)
theorem ND {l:List Int}(h:∀i,i<l.length→Q7 (l.getD i 0)):Ji l:=by
 intro d hd;obtain⟨i,hi,rfl⟩:=List.getElem_of_mem hd;have:=h i hi;rwa[List.getD_eq_getElem?_getD,List.getElem?_eq_getElem hi]at this
theorem Q3 {l:List Int}(h:Ji l):0≤val l:=by
 induction l with
 |nil=>exact Int.le_refl 0
 |cons d l ih =>
  obtain⟨h1,h2⟩:=Z0.1 h;have:=ih h2;simp only[val];unfold Q7 at h1;omega
theorem ZE {l:List Int}(h:Ji l):val l<pw l.length:=by
 induction l with
 |nil=>simp[val,pw]
 |cons d l ih =>
  obtain⟨h1,h2⟩:=Z0.1 h;have:=ih h2;simp only[val,List.length_cons,pw];unfold Q7 at h1;omega
theorem PI (l m:List Int):val (l ++ m)=val l+pw l.length*val m:=by
 induction l with
 |nil=>simp[val,pw]
 |cons d l ih =>
  simp only[List.cons_append,val,List.length_cons,pw];rw[ih,Int.mul_add,Int.mul_assoc];omega
theorem EB (l:List Int)(x:Int):val (l ++ [x])=val l+pw l.length*x:=by
 rw[PI];simp[val]
theorem Jh (l:List Int)(i:Nat)(h:i<l.length):val (l.take (i+1))=val (l.take i)+pw i*l.getD i 0:=by
 rw[MQ l 0 i h,EB,List.length_take,Nat.min_eq_left (by omega)]
theorem F9 (n:Nat):val (List.replicate n 0)=0:=by
 induction n with
 |zero=>rfl
 |succ n ih=>simp[List.replicate_succ,val,ih]
theorem CL {l:List Int}(h:Af l)(hne:l≠[]):pw (l.length-1)≤val l:=by
 have hl:=h.2 hne;have hlen:0<l.length:=List.length_pos_iff.2 hne;have e:=Jh l (l.length-1) (by omega);rw[show l.length-1+1=l.length by omega,List.take_length]at e;have h1:=Q3 (QD h.1 (l.length-1));have h2:=Ju h.1 (l.length-1);have h3:=Jk (l.length-1);have h4:pw (l.length-1)*1≤pw (l.length-1)*l.getD (l.length-1) 0:=Int.mul_le_mul_of_nonneg_left (by unfold Q7 at h2;omega) (by omega);omega
theorem IQ:∀ {a b:List Int},Ji a→Ji b→a.length=b.length→val a=val b→a=b
 | [],[],_,_,_,_=>rfl
 | [],_ :: _,_,_,h,_=>by simp at h
 |_ :: _,[],_,_,h,_=>by simp at h
 |x :: a,y :: b,ha,hb,hl,hv=>by
  obtain⟨h1,h2⟩:=Z0.1 ha;obtain⟨h3,h4⟩:=Z0.1 hb;simp only[val]at hv;unfold Q7 at h1 h3;have hxy:x=y:=by omega
  have hv':val a=val b:=by omega
  rw[hxy,IQ h2 h4 (by simpa using hl) hv']
theorem YS {a b:List Int}(ha:Af a)(hb:Af b)(h:val a=val b):a=b:=by
 have key:∀ {a b:List Int},Af a→Af b→val a=val b→a.length≤b.length→a=b:=by
  intro a b ha hb h hl;by_cases e:a.length=b.length
  ·exact IQ ha.1 hb.1 e h
  ·exfalso
   have hne:b≠[]:=fun e'=>by
    have:b.length=0:=by rw[e'];rfl
    omega
   have h1:=CL hb hne;have h2:=ZE ha.1;have h3:=Cj (show a.length≤b.length-1 by omega);omega
 rcases Nat.le_total a.length b.length with hl |hl
 ·exact key ha hb h hl
 ·exact(key hb ha h.symm hl).symm
def X9 (n:Nat):List Int:=if h:n=0 then []else((n%1000000000:Nat):Int) :: X9 (n/1000000000)
termination_by n
decreasing_by omega
theorem Qi:X9 0=[]:=by rw[X9];simp
theorem Ba {n:Nat}(h:n≠0):X9 n=((n%1000000000:Nat):Int) :: X9 (n/1000000000):=by rw[X9];simp[h]
theorem Xx (n:Nat):val (X9 n)=n:=by
 induction n using Nat.strongRecOn with
 |ind n ih =>
  by_cases h:n=0
  ·subst h;rw[Qi];rfl
  ·rw[Ba h]
   simp only[val];rw[ih (n/1000000000) (by omega)];omega
theorem XJ (n:Nat):Ji (X9 n):=by
 induction n using Nat.strongRecOn with
 |ind n ih =>
  by_cases h:n=0
  ·subst h;rw[Qi];exact Cd
  ·rw[Ba h]
   exact Z0.2 ⟨⟨by omega,by omega⟩,ih _ (by omega)⟩
theorem Iv {n:Nat}(h:n≠0):X9 n≠[]:=by rw[Ba h];simp
theorem P5 {n:Nat}:X9 n=[]↔n=0:=⟨fun h=>Classical.byContradiction fun e=>Iv e h,fun h=>by rw[h];exact Qi⟩
theorem XV (n:Nat):Af (X9 n):=by
 refine⟨XJ n,?_⟩
 induction n using Nat.strongRecOn with
 |ind n ih =>
  intro hne;by_cases h:n=0
  ·subst h;exact absurd Qi hne
  ·rw[Ba h]
   by_cases h2:n/1000000000=0
   ·rw[h2,Qi];simp;omega
   ·have hn:=Iv h2
    have:=ih (n/1000000000) (by omega) hn;obtain⟨k,hk⟩:∃k,(X9 (n/1000000000)).length=k+1:=⟨(X9 (n/1000000000)).length-1,by have:=List.length_pos_iff.2 hn;omega⟩
    simp only[List.length_cons,hk,Nat.add_sub_cancel]at this ⊢
    simpa using this
theorem AX {l:List Int}(h:Af l):X9 (val l).toNat=l:=by
 refine YS (XV _) h ?_;rw[Xx];have:=Q3 h.1;omega
theorem ql {l:List Int}(h:Ji l):((val l).toNat:Int)=val l:=Int.toNat_of_nonneg (Q3 h)
def Au (l:List Int):Nat→Nat
 |0=>0
 |n+1=>if l.getD n 0=0 then Au l n else n+1
theorem Ye (l:List Int):∀n,Au l n≤n
 |0=>Nat.le_refl _
 |n+1=>by
  simp only[Au]
  split
  ·exact Nat.le_succ_of_le (Ye l n)
  ·exact Nat.le_refl _
theorem Tn {l:List Int}:∀n,n≤l.length→val (l.take (Au l n))=val (l.take n)
 |0,_=>rfl
 |n+1,h=>by
  simp only[Au]
  split
  ·rename_i e
   rw[Tn n (by omega),Jh l n h,e];simp
  ·rfl
theorem Vm {l:List Int}(h:Ji l)(n:Nat)(hn:n≤l.length):Af (l.take (Au l n)):=by
 refine⟨QD h _,fun hne=>?_⟩
 induction n with
 |zero=>simp[Au]at hne
 |succ n ih =>
  simp only[Au]at hne ⊢
  split
  ·rename_i e;rw[if_pos e]at hne;exact ih (by omega) hne
  ·rename_i e
   rw[List.length_take,Nat.min_eq_left hn,Nat.add_sub_cancel,BD l 0 n (n+1) (by omega)];exact e
theorem dj {l:List Int}(h:Ji l):l.take (Au l l.length)=X9 (val l).toNat:=by
 have h1:=Vm h l.length (Nat.le_refl _);rw[←AX h1,Tn _ (Nat.le_refl _),List.take_length]
def sm (f:Nat→Int):Nat→Int
 |0=>0
 |n+1=>sm f n+pw n*f n
def B0 (f:Nat→Int)(n:Nat):List Int:=(List.range n).map f
theorem Qc (f:Nat→Int)(n:Nat):(B0 f n).length=n:=by simp[B0]
theorem Ey (f:Nat→Int)(n:Nat):B0 f (n+1)=B0 f n ++ [f n]:=by simp[B0,List.range_succ]
theorem Cz (f:Nat→Int)(n i:Nat)(h:i<n):(B0 f n).getD i 0=f i:=by simp[B0,List.getD_eq_getElem?_getD,h]
theorem KQ {f f':Nat→Int}{n:Nat}(h:∀k,k<n→f k=f' k):B0 f n=B0 f' n:=List.map_congr_left fun k hk=>h k (by simpa using hk)
theorem GW (f:Nat→Int):∀n,val (B0 f n)=sm f n
 |0=>rfl
 |n+1=>by rw[Ey,EB,Qc,GW f n];rfl
theorem WS (l:List Int):∀n,n≤l.length→sm (fun i=>l.getD i 0) n=val (l.take n)
 |0,_=>rfl
 |n+1,h=>by rw[Jh l n h,←WS l n (by omega)];rfl
theorem uw (l:List Int)(n:Nat)(h:l.length≤n):sm (fun i=>l.getD i 0) n=val l:=by
 obtain⟨k,rfl⟩:=Nat.exists_eq_add_of_le h
 induction k with
 |zero=>rw[Nat.add_zero,WS l _ (Nat.le_refl _),List.take_length]
 |succ k ih =>
  rw[show l.length+(k+1)=(l.length+k)+1 by omega];simp only[sm];rw[ih (by omega)];have:l.getD (l.length+k) 0=0:=by rw[List.getD_eq_getElem?_getD,List.getElem?_eq_none (by omega)];rfl
  rw[this];simp
theorem Dl {f:Nat→Int}{n:Nat}(h:∀i,i<n→Q7 (f i)):Ji (B0 f n):=by
 refine ND fun i hi=>?_
 rw[Qc]at hi;rw[Cz _ _ _ hi];exact h i hi
def Qh (a b:Nat→Int):Nat→Int
 |0=>0
 |i+1=>if 1000000000≤a i+b i+Qh a b i then 1 else 0
def AA (a b:Nat→Int)(i:Nat):Int:=if 1000000000≤a i+b i+Qh a b i then a i+b i+Qh a b i-1000000000 else a i+b i+Qh a b i
theorem E1 (a b:Nat→Int):∀i,Qh a b i=0∨Qh a b i=1
 |0=>.inl rfl
 |i+1=>by simp only[Qh];split <;> simp
theorem PV {a b:Nat→Int}{i:Nat}(ha:Q7 (a i)) (hb:Q7 (b i)):Q7 (AA a b i):=by
 have:=E1 a b i;unfold Q7 at *;unfold AA
 split <;> omega
theorem OK (a b:Nat→Int):∀n,sm (AA a b) n+pw n*Qh a b n=sm a n+sm b n
 |0=>by simp[sm,Qh]
 |n+1=>by
  have ih:=OK a b n;have e:AA a b n+1000000000*Qh a b (n+1)=a n+b n+Qh a b n:=by
   simp only[AA,Qh]
   split <;> omega
  simp only[sm,pw];have:pw n*(AA a b n+1000000000*Qh a b (n+1))=pw n*(a n+b n+Qh a b n):=by rw[e]
  grind
def JN (a b:Nat→Int):Nat→Int
 |0=>0
 |i+1=>if a i-b i-JN a b i<0 then 1 else 0
def Bo (a b:Nat→Int)(i:Nat):Int:=if a i-b i-JN a b i<0 then a i-b i-JN a b i+1000000000 else a i-b i-JN a b i
theorem GR (a b:Nat→Int):∀i,JN a b i=0∨JN a b i=1
 |0=>.inl rfl
 |i+1=>by simp only[JN];split <;> simp
theorem Tc {a b:Nat→Int}{i:Nat}(ha:Q7 (a i)) (hb:Q7 (b i)):Q7 (Bo a b i):=by
 have:=GR a b i;unfold Q7 at *;unfold Bo
 split <;> omega
theorem PD (a b:Nat→Int):∀n,sm (Bo a b) n-pw n*JN a b n=sm a n-sm b n
 |0=>by simp[sm,JN]
 |n+1=>by
  have ih:=PD a b n;have e:Bo a b n-1000000000*JN a b (n+1)=a n-b n-JN a b n:=by
   simp only[Bo,JN]
   split <;> omega
  simp only[sm,pw];have:pw n*(Bo a b n-1000000000*JN a b (n+1))=pw n*(a n-b n-JN a b n):=by rw[e]
  grind
theorem rA {f:Nat→Int}:∀ {n:Nat},(∀i,i<n→Q7 (f i))→0≤sm f n∧sm f n<pw n
 |0,_=>by simp[sm,pw]
 |n+1,h=>by
  obtain⟨h1,h2⟩:=rA (n:=n) fun i hi=>h i (by omega)
  have h3:=h n (by omega);have h4:=Jk n;unfold Q7 at h3;have h5:pw n*f n≤pw n*999999999:=Int.mul_le_mul_of_nonneg_left (by omega) (by omega);have h6:0≤pw n*f n:=Int.mul_nonneg (by omega) h3.1;simp only[sm,pw];omega
theorem WY {a b:Nat→Int}{n:Nat}(ha:∀i,i<n→Q7 (a i)) (hb:∀i,i<n→Q7 (b i)) (h:sm b n≤sm a n):JN a b n=0:=by
 have h1:=PD a b n;have h2:=(rA (f:=Bo a b) (n:=n) fun i hi=>Tc (ha i hi) (hb i hi)).2;rcases GR a b n with e |e
 ·exact e
 ·rw[e]at h1;omega
theorem Qw (l:List Int)(i j:Nat)(x:Int)(hi:i<l.length):(l.set i x).getD j 0=if j=i then x else l.getD j 0:=by
 simp only[List.getD_eq_getElem?_getD,List.getElem?_set];by_cases h:i=j
 ·subst h;simp[hi]
 ·simp[h,Ne.symm h]
theorem Cu:∀ (l:List Int) (i:Nat) (x:Int),i<l.length→val (l.set i x)=val l+pw i*(x-l.getD i 0)
 | [],_,_,h=>by simp at h
 |d :: l,0,x,_=>by simp[val,pw];omega
 |d :: l,i+1,x,h=>by
  have ih:=Cu l i x (by simpa using h);simp only[List.set_cons_succ,val,pw,List.getD_cons_succ];rw[ih,Int.mul_add,Int.mul_assoc];omega
theorem EH {l:List Int}(h:Ji l)(i:Nat){x:Int}(hx:Q7 x):Ji (l.set i x):=fun d hd=>by
 rcases List.mem_or_eq_of_mem_set hd with e |e
 ·exact h d e
 ·rw[e];exact hx
theorem BL {x y:Int}(hx:Q7 x)(hy:Q7 y):0≤x*y∧x*y≤999999998000000001:=by
 unfold Q7 at hx hy;have h1:0≤x*y:=Int.mul_nonneg hx.1 hy.1;have h2:x*y≤999999999*y:=Int.mul_le_mul_of_nonneg_right (by omega) hy.1;omega
theorem Kn (l:List Int)(i:Nat)(h:i<l.length):val (l.drop i)=l.getD i 0+1000000000*val (l.drop (i+1)):=by
 rw[List.drop_eq_getElem_cons h];simp only[val];rw[List.getD_eq_getElem?_getD,List.getElem?_eq_getElem h];rfl
theorem Jq (l:List Int)(i:Nat)(h:i≤l.length):val l=val (l.take i)+pw i*val (l.drop i):=by
 conv=>lhs;rw[←List.take_append_drop i l]
 rw[PI,List.length_take,Nat.min_eq_left h]
def Kx (a:Nat→Int)(k:Int):Nat→Int
 |0=>0
 |i+1=>(a i*k+Kx a k i)/1000000000
def FI (a:Nat→Int)(k:Int)(i:Nat):Int:=(a i*k+Kx a k i)%1000000000
theorem CV {a:Nat→Int}{k:Int}(ha:∀i,Q7 (a i)) (hk:Q7 k):∀i,Q7 (Kx a k i)
 |0=>⟨by simp[Kx],by simp[Kx]⟩
 |i+1=>by
  have h1:=CV ha hk i;have h2:=BL (ha i) hk;simp only[Kx];unfold Q7 at *;omega
theorem jz {a:Nat→Int}{k:Int}(ha:∀i,Q7 (a i)) (hk:Q7 k) (i:Nat):Q7 (FI a k i):=by
 unfold FI Q7;omega
theorem Wj (a:Nat→Int)(k:Int):∀n,sm (FI a k) n+pw n*Kx a k n=sm a n*k
 |0=>by simp[sm,Kx]
 |n+1=>by
  have ih:=Wj a k n;have e:FI a k n+1000000000*Kx a k (n+1)=a n*k+Kx a k n:=by
   simp only[FI,Kx];omega
  have e2:pw n*(FI a k n+1000000000*Kx a k (n+1))=pw n*(a n*k+Kx a k n):=by rw[e]
  simp only[sm,pw];grind
def JW (a:List Int)(b:Int)(i:Nat):Int:=val (a.drop i)%b
def Ap (a:List Int)(b:Int)(i:Nat):Int:=(JW a b (i+1)*1000000000+a.getD i 0)/b
theorem Hz (a:List Int)(b:Int)(i:Nat)(h:i<a.length):JW a b i=(JW a b (i+1)*1000000000+a.getD i 0)%b:=by
 unfold JW;rw[Kn a i h];rw[Int.add_comm,Int.mul_comm,Int.add_emod,Int.mul_emod]
 conv=>rhs;rw[Int.add_emod,Int.mul_emod,Int.emod_emod_of_dvd _ (Int.dvd_refl b)]
theorem Mv (a:List Int)(b:Int):JW a b a.length=0:=by unfold JW;simp[val]
theorem Ek {a:List Int}{b:Int}(ha:Ji a)(hb:0<b)(i:Nat):Q7 (Ap a b i):=by
 have h1:=Int.emod_nonneg (val (a.drop (i+1))) (show b≠0 by omega);have h2:=Int.emod_lt_of_pos (val (a.drop (i+1))) hb;have h3:=Ju ha i;unfold Q7 at *;unfold Ap JW;refine⟨Int.ediv_nonneg (by omega) (by omega),Int.ediv_lt_of_lt_mul hb ?_⟩;omega
theorem WE {a:List Int}{b:Int}(hb:0<b):∀i,i≤a.length→val (a.drop (a.length-i))=b*val ((B0 (Ap a b) a.length).drop (a.length-i))+JW a b (a.length-i)
 |0,_=>by
  have e:(B0 (Ap a b) a.length).drop a.length=[]:=by rw[List.drop_eq_nil_iff,Qc];exact Nat.le_refl _
  simp[e,Mv,val]
 |i+1,h=>by
  have ih:=WE (a:=a) hb i (by omega);obtain⟨k,hk⟩:∃k,a.length-(i+1)=k:=⟨_,rfl⟩
  have hk1:a.length-i=k+1:=by omega
  rw[hk1]at ih;rw[hk];rw[Kn a k (by omega),Kn (B0 (Ap a b) a.length) k (by rw[Qc];omega),Cz _ _ _ (show k<a.length by omega)];have e:=Int.mul_ediv_add_emod (JW a b (k+1)*1000000000+a.getD k 0) b;have e2:=Hz a b k (by omega);have e3:Ap a b k=(JW a b (k+1)*1000000000+a.getD k 0)/b:=rfl;rw[←e3,←e2]at e;grind
theorem Ps {a:List Int}{b:Int}(hb:0<b):val a=b*val (B0 (Ap a b) a.length)+JW a b 0:=by
 have:=WE (a:=a) hb a.length (Nat.le_refl _)
 simpa using this
def zA (z:Int):AV:=.agg [.bool (decide (z<0)),X8 (X9 z.natAbs)]
theorem XE (z:Int):Settled (zA z):=Xw (by simp[Xc,X5])
theorem rg:(!(true == false))=true:=Go.Ab.nrfl rfl
theorem rf:(!(false == true))=true:=Go.Ab.nrfl rfl
theorem rh:(!(true == true))=false:=Go.Ab.nrfl rfl
theorem re:(!(false == false))=false:=Go.Ab.nrfl rfl
set_option linter.defProp false in
def wN:=XB rg (XB rf (XB rh re))
def KC (neg:Bool)(v:Int):Int:=if neg=true then -v else v
theorem digs_len_zero {n:Nat}:(X9 n).length=0↔n=0:=by rw[List.length_eq_zero_iff,P5]
theorem ri {l:List Int}(h:Ji l)(neg:Bool):zA (KC neg (val l))=.agg [.bool (neg && decide (Au l l.length≠0)),X8 (l.take (Au l l.length))]:=by
 have h0:=Q3 h;have e1:(KC neg (val l)).natAbs=(val l).toNat:=by unfold KC;split <;> omega
 have e2:=dj h;have hle:=Ye l l.length;have e3:Au l l.length=0↔val l=0:=by
  have h1:(l.take (Au l l.length)).length=Au l l.length:=by rw[List.length_take,Nat.min_eq_left hle]
  rw[←h1,e2,digs_len_zero];omega
 unfold zA;rw[e1,e2];congr 3;unfold KC;have h0':¬val l<0:=by omega
 cases neg
 ·simp[h0']
 ·have:-val l<0↔¬Au l l.length=0:=by rw[e3];omega
  simp only[if_true,Bool.true_and,decide_eq_decide];exact this
theorem G8 {d:Nat}(h0:d≠0)(h:d<1000000000):X9 d=[(d:Int)]:=by
 rw[Ba h0,show d/1000000000=0 by omega,Qi,show d%1000000000=d by omega]
theorem Rs {d:Nat}(h0:1000000000≤d)(h:d<1000000000000000000):X9 d=[((d%1000000000:Nat):Int),((d/1000000000:Nat):Int)]:=by
 rw[Ba (by omega),G8 (by omega) (by omega)]
theorem Uj {d:Nat}(h0:1000000000000000000≤d)(h:d<18446744073709551616) :
  X9 d=[((d%1000000000:Nat):Int),((d/1000000000%1000000000:Nat):Int),((d/1000000000/1000000000:Nat):Int)]:=by
 rw[Ba (by omega),Rs (by omega) (by omega)]
def dg (l:List Int):Nat→Int:=fun i=>l.getD i 0
theorem Qb {l:List Int}(h:Ji l)(i:Nat):Q7 (dg l i):=Ju h i
theorem Hh {l:List Int}{i:Nat}(h:l.length≤i):dg l i=0:=by unfold dg;rw[List.getD_eq_getElem?_getD,List.getElem?_eq_none h];rfl
theorem Ew (l:List Int)(n:Nat)(h:l.length≤n):sm (dg l) n=val l:=uw l n h
def A6 (a b:List Int)(n:Nat):List Int:=B0 (AA (dg a) (dg b)) n ++ [Qh (dg a) (dg b) n]
theorem O8 (a b:List Int)(n:Nat)(ha:a.length≤n)(hb:b.length≤n):val (A6 a b n)=val a+val b:=by
 unfold A6;rw[EB,Qc,GW,OK,Ew a n ha,Ew b n hb]
theorem O7 {a b:List Int}(ha:Ji a)(hb:Ji b)(n:Nat):Ji (A6 a b n):=by
 unfold A6;refine Iu.2 ⟨Dl fun i _=>PV (Qb ha i) (Qb hb i),Z0.2 ⟨?_,Cd⟩⟩;have:=E1 (dg a) (dg b) n;unfold Q7;omega
theorem ER (a b:List Int)(n:Nat):(A6 a b n).length=n+1:=by simp[A6,Qc]
def ZA (a b:List Int):List Int:=B0 (Bo (dg a) (dg b)) a.length
theorem BQ {a b:List Int}(ha:Ji a)(hb:Ji b)(hl:b.length≤a.length)(h:val b≤val a):val (ZA a b)=val a-val b:=by
 unfold ZA;have e:=WY (n:=a.length) (fun i _=>Qb ha i) (fun i _=>Qb hb i) (by rw[Ew b _ hl,Ew a _ (Nat.le_refl _)];exact h);have e2:=PD (dg a) (dg b) a.length;rw[e,Ew a _ (Nat.le_refl _),Ew b _ hl]at e2;rw[GW];omega
theorem BP {a b:List Int}(ha:Ji a)(hb:Ji b):Ji (ZA a b):=Dl fun i _=>Tc (Qb ha i) (Qb hb i)
def J1 (a b:List Int)(i:Nat):List Int:=B0 (fun j=>if j<i then Bo (dg a) (dg b) j else if j=i then dg a j-JN (dg a) (dg b) i else dg a j) a.length
theorem kU (l:List Int):B0 (dg l) l.length=l:=by
 refine List.ext_getElem (by simp[B0]) fun i h1 h2=>?_
 simp[B0,dg,List.getD_eq_getElem?_getD,h2]
theorem Sb (a b:List Int):J1 a b 0=a:=by
 unfold J1
 conv=>rhs;rw[←kU a]
 refine KQ fun k _=>?_
 rw[if_neg (by omega)]
 split
 ·simp[JN]
 ·rfl
theorem UI (a b:List Int):J1 a b a.length=ZA a b:=KQ fun k hk=>by rw[if_pos hk]
theorem Bi (f:Nat→Int)(n k:Nat)(x:Int)(h:k<n):(B0 f n).set k x=B0 (fun q=>if q=k then x else f q) n:=by
 refine List.ext_getElem (by simp[B0]) fun q h1 h2=>?_
 have hq:q<n:=by simpa [Qc]using h2
 by_cases e:k=q
 ·subst e;simp[B0]
 ·simp[B0,List.getElem_set,e,Ne.symm e]
end
end Go.Ab.N
namespace Go.Ab.N
open Go Go.Ab
open Classical
noncomputable section
theorem ZS {l m:List AV}(h:WeakL l m):Weak (.agg l) (.agg m):=fun c v hv=>by
 cases hv with
 |agg vs _ hs hr =>
  have:=(lK h) c (.tuple vs) (.tup vs _ hs hr);cases this with
  |tup _ _ hs' hr'=>exact .agg vs m hs' hr'
theorem Qu (f:Nat→AV)(t:Bool):Weak (.sl 0 0 f t) (X8 []):=Kp rfl (Nat.le_refl _) fun j hj=>by exact absurd hj (Nat.not_lt_zero j)
theorem BH {n:Nat}{L:List AV}{l:List Int}{t:Bool}(hn:n=l.length)(h:L=l.map I):Weak (.sl n n (Xg L) t) (X8 l):=by
 subst hn;subst h;exact lI l t
theorem He (L:List AV):∀n off,off+n=L.length→Qv (Xg L) off 0 n=L.drop off:=by
 have key:∀n off j,off+j+n=L.length→Qv (Xg L) off j n=L.drop (off+j):=by
  intro n
  induction n with
  |zero=>intro off j h;rw[List.drop_eq_nil_iff.2 (by omega)];rfl
  |succ n ih =>
   intro off j h;rw[List.drop_eq_getElem_cons (by omega)];simp only[Qv];rw[ih off (j+1) (by omega)];congr 1;show L.getD (off+j) .any=_;rw[List.getD_eq_getElem?_getD,List.getElem?_eq_getElem (by omega)];rfl
 intro n off h;rw[key n off 0 (by omega)];rfl
theorem ZC {P:Program}{fn:Func}{str hcs:List Nat}{r:AV}{s:AS}{t u id ver n:Nat}{L:List AV}(hr:fn.results=#[.cell t u])(hk:C8 P u=some (some n)) (hs:s.get t=.ref id ver 0)
  (ho:s.h[id]?=some (.row ver n (Xg L))) (hn:L.length=n) (h:Zv s.h (.agg L) r):RetOk (Jv P fn str hcs r) s:=by
 subst hn;refine GB (v:=.agg L) hr ?_ h;rw[hs,AW,hk,K1,ho,K2,bJ,He L _ _ (by omega)];simp[Q4]
theorem Q9 {P:Program}{fn:Func}{str hcs:List Nat}{r:AV}{s:AS}{t u id ver n:Nat}{L M:List AV}(hr:fn.results=#[.cell t u])(hk:C8 P u=some (some n)) (hs:s.get t=.ref id ver 0)
  (ho:s.h[id]?=some (.row ver n (Xg L))) (hn:L.length=n) (e:r=.agg M) (hset:Settled r) (h:WeakL L M):RetOk (Jv P fn str hcs r) s:=by
 refine ZC hr hk hs ho hn ?_;subst e;exact Xs hset (ZS h)
end
end Go.Ab.N
namespace Go.Ab.N
open Go Go.RowKit Go.Proofs
theorem ww:C8 Tryz.prog 3=some none:=by kernel_rfl
theorem uD:KK Tryz.prog 3=some 1:=by kernel_rfl
theorem j8:Wd Tryz.prog 3=some .i64:=by kernel_rfl
theorem uP:Q8 Tryz.prog 3=some [.int .i64 0]:=by kernel_rfl
theorem xo:C8 Tryz.prog 4=some none:=by kernel_rfl
theorem uE:KK Tryz.prog 4=some 1:=by kernel_rfl
theorem sI:Lj Tryz.prog 4=true:=by kernel_rfl
theorem uQ:Q8 Tryz.prog 4=some [.bool false]:=by kernel_rfl
theorem wu:C8 Tryz.prog 22=some none:=by kernel_rfl
theorem pX:KK Tryz.prog 22=some 1:=by kernel_rfl
theorem vY:Ah Tryz.prog 22=some (3,1,8):=by kernel_rfl
theorem wv:C8 Tryz.prog 23=some none:=by kernel_rfl
theorem vZ:Ah Tryz.prog 23=some (30,8,128):=by kernel_rfl
theorem qw:Q8 Tryz.prog 23=some [.sl 0 0 (fun _=>.any) true]:=by kernel_rfl
theorem XW:C8 Tryz.prog 26=some (some 2):=by kernel_rfl
theorem pY:KK Tryz.prog 26=some 2:=by kernel_rfl
theorem nT:Bk Tryz.prog 26 0=some (0,1,none):=by kernel_rfl
theorem mO:Qm Tryz.prog 26 0=some (0,1):=by kernel_rfl
theorem nU:Bk Tryz.prog 26 1=some (1,1,none):=by kernel_rfl
theorem mP:Qm Tryz.prog 26 1=some (1,1):=by kernel_rfl
theorem vD:A0 Tryz.prog 26=true:=by kernel_rfl
theorem qx:Q8 Tryz.prog 26=some [.bool false,.sl 0 0 (fun _=>.any) true]:=by kernel_rfl
theorem XT:C8 Tryz.prog 28=some (some 4):=by kernel_rfl
theorem PE:KK Tryz.prog 28=some 4:=by kernel_rfl
theorem nV:Bk Tryz.prog 28 0=some (0,2,some 2):=by kernel_rfl
theorem mQ:Qm Tryz.prog 28 0=some (0,2):=by kernel_rfl
theorem nW:Bk Tryz.prog 28 1=some (2,2,some 2):=by kernel_rfl
theorem mR:Qm Tryz.prog 28 1=some (2,2):=by kernel_rfl
theorem vE:A0 Tryz.prog 28=true:=by kernel_rfl
theorem H5:Q8 Tryz.prog 28=some [.bool false,.sl 0 0 (fun _=>.any) true,.bool false,.sl 0 0 (fun _=>.any) true]:=by kernel_rfl
theorem J6:C8 Tryz.prog 30=some (some 8):=by kernel_rfl
theorem DL:KK Tryz.prog 30=some 8:=by kernel_rfl
theorem nX:Bk Tryz.prog 30 0=some (0,4,some 4):=by kernel_rfl
theorem mS:Qm Tryz.prog 30 0=some (0,4):=by kernel_rfl
theorem nY:Bk Tryz.prog 30 1=some (4,4,some 4):=by kernel_rfl
theorem mT:Qm Tryz.prog 30 1=some (4,4):=by kernel_rfl
theorem vG:A0 Tryz.prog 30=true:=by kernel_rfl
theorem qy:Q8 Tryz.prog 30=some [.bool false,.sl 0 0 (fun _=>.any) true,.bool false,.sl 0 0 (fun _=>.any) true,.bool false,.sl 0 0 (fun _=>.any) true,.bool false,.sl 0 0 (fun _=>.any) true]:=by kernel_rfl
theorem Bc:C8 Tryz.prog 32=some (some 32):=by kernel_rfl
theorem PF:KK Tryz.prog 32=some 32:=by kernel_rfl
theorem nZ:Bk Tryz.prog 32 0=some (0,8,some 8):=by kernel_rfl
theorem mU:Qm Tryz.prog 32 0=some (0,8):=by kernel_rfl
theorem o8:Bk Tryz.prog 32 1=some (8,8,some 8):=by kernel_rfl
theorem mV:Qm Tryz.prog 32 1=some (8,8):=by kernel_rfl
theorem o9:Bk Tryz.prog 32 2=some (16,8,some 8):=by kernel_rfl
theorem mW:Qm Tryz.prog 32 2=some (16,8):=by kernel_rfl
theorem oa:Bk Tryz.prog 32 3=some (24,4,some 4):=by kernel_rfl
theorem mX:Qm Tryz.prog 32 3=some (24,4):=by kernel_rfl
theorem oc:Bk Tryz.prog 32 4=some (28,4,some 4):=by kernel_rfl
theorem mY:Qm Tryz.prog 32 4=some (28,4):=by kernel_rfl
theorem vH:A0 Tryz.prog 32=true:=by kernel_rfl
theorem qz:Q8 Tryz.prog 32=some [.bool false,.sl 0 0 (fun _=>.any) true,.bool false,.sl 0 0 (fun _=>.any) true,.bool false,.sl 0 0 (fun _=>.any) true,.bool false,.sl 0 0 (fun _=>.any) true,.bool false,.sl 0 0 (fun _=>.any) true,.bool false,.sl 0 0 (fun _=>.any) true,.bool false,.sl 0 0 (fun _=>.any) true,.bool false,.sl 0 0 (fun _=>.any) true,.bool false,.sl 0 0 (fun _=>.any) true,.bool false,.sl 0 0 (fun _=>.any) true,.bool false,.sl 0 0 (fun _=>.any) true,.bool false,.sl 0 0 (fun _=>.any) true,.bool false,.sl 0 0 (fun _=>.any) true,.bool false,.sl 0 0 (fun _=>.any) true,.bool false,.sl 0 0 (fun _=>.any) true,.bool false,.sl 0 0 (fun _=>.any) true]:=by kernel_rfl
theorem wa:Ah Tryz.prog 35=some (32,32,512):=by kernel_rfl
theorem wb:Ah Tryz.prog 37=some (23,1,24):=by kernel_rfl
theorem qX:C8 Tryz.prog 43=some (some 20):=by kernel_rfl
theorem pZ:KK Tryz.prog 43=some 20:=by kernel_rfl
theorem od:Bk Tryz.prog 43 0=some (0,8,some 8):=by kernel_rfl
theorem mZ:Qm Tryz.prog 43 0=some (0,8):=by kernel_rfl
theorem oe:Bk Tryz.prog 43 1=some (8,4,some 4):=by kernel_rfl
theorem nc:Qm Tryz.prog 43 1=some (8,4):=by kernel_rfl
theorem og:Bk Tryz.prog 43 2=some (12,4,some 4):=by kernel_rfl
theorem nd:Qm Tryz.prog 43 2=some (12,4):=by kernel_rfl
theorem oh:Bk Tryz.prog 43 3=some (16,4,some 4):=by kernel_rfl
theorem ng:Qm Tryz.prog 43 3=some (16,4):=by kernel_rfl
theorem vI:A0 Tryz.prog 43=true:=by kernel_rfl
theorem qB:Q8 Tryz.prog 43=some [.bool false,.sl 0 0 (fun _=>.any) true,.bool false,.sl 0 0 (fun _=>.any) true,.bool false,.sl 0 0 (fun _=>.any) true,.bool false,.sl 0 0 (fun _=>.any) true,.bool false,.sl 0 0 (fun _=>.any) true,.bool false,.sl 0 0 (fun _=>.any) true,.bool false,.sl 0 0 (fun _=>.any) true,.bool false,.sl 0 0 (fun _=>.any) true,.bool false,.sl 0 0 (fun _=>.any) true,.bool false,.sl 0 0 (fun _=>.any) true]:=by kernel_rfl
theorem wc:Ah Tryz.prog 49=some (56,8,128):=by kernel_rfl
theorem ol:Bk Tryz.prog 56 0=some (0,4,some 4):=by kernel_rfl
theorem nh:Qm Tryz.prog 56 0=some (0,4):=by kernel_rfl
theorem oo:Bk Tryz.prog 56 1=some (4,4,some 4):=by kernel_rfl
theorem nl:Qm Tryz.prog 56 1=some (4,4):=by kernel_rfl
theorem vJ:A0 Tryz.prog 56=true:=by kernel_rfl
theorem qD:Q8 Tryz.prog 56=some [.bool false,.sl 0 0 (fun _=>.any) true,.bool false,.sl 0 0 (fun _=>.any) true,.bool false,.sl 0 0 (fun _=>.any) true,.bool false,.sl 0 0 (fun _=>.any) true]:=by kernel_rfl
theorem we:Ah Tryz.prog 79=some (83,30,464):=by kernel_rfl
theorem wx:C8 Tryz.prog 83=some (some 30):=by kernel_rfl
theorem oq:Bk Tryz.prog 83 0=some (0,1,none):=by kernel_rfl
theorem nm:Qm Tryz.prog 83 0=some (0,1):=by kernel_rfl
theorem ot:Bk Tryz.prog 83 1=some (1,1,none):=by kernel_rfl
theorem nn:Qm Tryz.prog 83 1=some (1,1):=by kernel_rfl
theorem ou:Bk Tryz.prog 83 2=some (2,8,some 8):=by kernel_rfl
theorem no:Qm Tryz.prog 83 2=some (2,8):=by kernel_rfl
theorem ov:Bk Tryz.prog 83 3=some (10,8,some 8):=by kernel_rfl
theorem np:Qm Tryz.prog 83 3=some (10,8):=by kernel_rfl
theorem ow:Bk Tryz.prog 83 4=some (18,8,some 8):=by kernel_rfl
theorem nq:Qm Tryz.prog 83 4=some (18,8):=by kernel_rfl
theorem ox:Bk Tryz.prog 83 5=some (26,4,some 4):=by kernel_rfl
theorem nr:Qm Tryz.prog 83 5=some (26,4):=by kernel_rfl
theorem vK:A0 Tryz.prog 83=true:=by kernel_rfl
theorem qE:Q8 Tryz.prog 83=some [.int .i64 0,.int .i64 0,.bool false,.sl 0 0 (fun _=>.any) true,.bool false,.sl 0 0 (fun _=>.any) true,.bool false,.sl 0 0 (fun _=>.any) true,.bool false,.sl 0 0 (fun _=>.any) true,.bool false,.sl 0 0 (fun _=>.any) true,.bool false,.sl 0 0 (fun _=>.any) true,.bool false,.sl 0 0 (fun _=>.any) true,.bool false,.sl 0 0 (fun _=>.any) true,.bool false,.sl 0 0 (fun _=>.any) true,.bool false,.sl 0 0 (fun _=>.any) true,.bool false,.sl 0 0 (fun _=>.any) true,.bool false,.sl 0 0 (fun _=>.any) true,.bool false,.sl 0 0 (fun _=>.any) true,.bool false,.sl 0 0 (fun _=>.any) true]:=by kernel_rfl
theorem qY:C8 Tryz.prog 85=some none:=by kernel_rfl
theorem qa:KK Tryz.prog 85=some 1:=by kernel_rfl
theorem gN:Ah Tryz.prog 85=some (131,5,88):=by kernel_rfl
theorem qZ:C8 Tryz.prog 86=some none:=by kernel_rfl
theorem qc:KK Tryz.prog 86=some 1:=by kernel_rfl
theorem kJ:HE Tryz.prog 86=true:=by kernel_rfl
theorem HP:Ah Tryz.prog 86=some (28,4,64):=by kernel_rfl
theorem qF:Q8 Tryz.prog 86=some [.sl 0 0 (fun _=>.any) true]:=by kernel_rfl
theorem r5:C8 Tryz.prog 88=some (some 3):=by kernel_rfl
theorem qe:KK Tryz.prog 88=some 3:=by kernel_rfl
theorem oy:Bk Tryz.prog 88 0=some (0,1,none):=by kernel_rfl
theorem ns:Qm Tryz.prog 88 0=some (0,1):=by kernel_rfl
theorem oz:Bk Tryz.prog 88 1=some (1,1,none):=by kernel_rfl
theorem oA:Bk Tryz.prog 88 2=some (2,1,none):=by kernel_rfl
theorem nt:Qm Tryz.prog 88 2=some (2,1):=by kernel_rfl
theorem vM:A0 Tryz.prog 88=true:=by kernel_rfl
theorem qG:Q8 Tryz.prog 88=some [.int .i64 0,.sl 0 0 (fun _=>.any) true,.sl 0 0 (fun _=>.any) true]:=by kernel_rfl
theorem r6:C8 Tryz.prog 91=some (some 7):=by kernel_rfl
theorem qf:KK Tryz.prog 91=some 7:=by kernel_rfl
theorem oB:Bk Tryz.prog 91 0=some (0,1,none):=by kernel_rfl
theorem nu:Qm Tryz.prog 91 0=some (0,1):=by kernel_rfl
theorem oC:Bk Tryz.prog 91 1=some (1,1,none):=by kernel_rfl
theorem nv:Qm Tryz.prog 91 1=some (1,1):=by kernel_rfl
theorem nw:Qm Tryz.prog 91 2=some (2,1):=by kernel_rfl
theorem oD:Bk Tryz.prog 91 3=some (3,4,some 4):=by kernel_rfl
theorem nz:Qm Tryz.prog 91 3=some (3,4):=by kernel_rfl
theorem vN:A0 Tryz.prog 91=true:=by kernel_rfl
theorem qH:Q8 Tryz.prog 91=some [.int .i64 0,.sl 0 0 (fun _=>.any) true,.sl 0 0 (fun _=>.any) true,.bool false,.sl 0 0 (fun _=>.any) true,.bool false,.sl 0 0 (fun _=>.any) true]:=by kernel_rfl
theorem Gg:C8 Tryz.prog 99=some (some 8):=by kernel_rfl
theorem qg:KK Tryz.prog 99=some 8:=by kernel_rfl
theorem oE:Bk Tryz.prog 99 0=some (0,4,some 4):=by kernel_rfl
theorem nA:Qm Tryz.prog 99 0=some (0,4):=by kernel_rfl
theorem oF:Bk Tryz.prog 99 1=some (4,4,some 4):=by kernel_rfl
theorem nC:Qm Tryz.prog 99 1=some (4,4):=by kernel_rfl
theorem vO:A0 Tryz.prog 99=true:=by kernel_rfl
theorem qI:Q8 Tryz.prog 99=some [.bool false,.sl 0 0 (fun _=>.any) true,.bool false,.sl 0 0 (fun _=>.any) true,.bool false,.sl 0 0 (fun _=>.any) true,.bool false,.sl 0 0 (fun _=>.any) true]:=by kernel_rfl
theorem jf:C8 Tryz.prog 101=some (some 16):=by kernel_rfl
theorem kY:KK Tryz.prog 101=some 16:=by kernel_rfl
theorem iv:Bk Tryz.prog 101 0=some (0,8,some 8):=by kernel_rfl
theorem fT:Qm Tryz.prog 101 0=some (0,8):=by kernel_rfl
theorem iw:Bk Tryz.prog 101 1=some (8,8,some 8):=by kernel_rfl
theorem fU:Qm Tryz.prog 101 1=some (8,8):=by kernel_rfl
theorem sD:A0 Tryz.prog 101=true:=by kernel_rfl
theorem lQ:Q8 Tryz.prog 101=some [.bool false,.sl 0 0 (fun _=>.any) true,.bool false,.sl 0 0 (fun _=>.any) true,.bool false,.sl 0 0 (fun _=>.any) true,.bool false,.sl 0 0 (fun _=>.any) true,.bool false,.sl 0 0 (fun _=>.any) true,.bool false,.sl 0 0 (fun _=>.any) true,.bool false,.sl 0 0 (fun _=>.any) true,.bool false,.sl 0 0 (fun _=>.any) true]:=by kernel_rfl
theorem sU:Ah Tryz.prog 105=some (108,24,384):=by kernel_rfl
theorem tH:C8 Tryz.prog 108=some (some 24):=by kernel_rfl
theorem kZ:KK Tryz.prog 108=some 24:=by kernel_rfl
theorem ix:Bk Tryz.prog 108 0=some (0,8,some 8):=by kernel_rfl
theorem fV:Qm Tryz.prog 108 0=some (0,8):=by kernel_rfl
theorem iy:Bk Tryz.prog 108 1=some (8,8,some 8):=by kernel_rfl
theorem fW:Qm Tryz.prog 108 1=some (8,8):=by kernel_rfl
theorem iA:Bk Tryz.prog 108 2=some (16,8,some 8):=by kernel_rfl
theorem fX:Qm Tryz.prog 108 2=some (16,8):=by kernel_rfl
theorem sE:A0 Tryz.prog 108=true:=by kernel_rfl
theorem lS:Q8 Tryz.prog 108=some [.bool false,.sl 0 0 (fun _=>.any) true,.bool false,.sl 0 0 (fun _=>.any) true,.bool false,.sl 0 0 (fun _=>.any) true,.bool false,.sl 0 0 (fun _=>.any) true,.bool false,.sl 0 0 (fun _=>.any) true,.bool false,.sl 0 0 (fun _=>.any) true,.bool false,.sl 0 0 (fun _=>.any) true,.bool false,.sl 0 0 (fun _=>.any) true,.bool false,.sl 0 0 (fun _=>.any) true,.bool false,.sl 0 0 (fun _=>.any) true,.bool false,.sl 0 0 (fun _=>.any) true,.bool false,.sl 0 0 (fun _=>.any) true]:=by kernel_rfl
theorem tI:C8 Tryz.prog 131=some (some 5):=by kernel_rfl
theorem l6:KK Tryz.prog 131=some 5:=by kernel_rfl
theorem iB:Bk Tryz.prog 131 0=some (0,1,none):=by kernel_rfl
theorem Rh:Qm Tryz.prog 131 0=some (0,1):=by kernel_rfl
theorem iC:Bk Tryz.prog 131 1=some (1,4,some 4):=by kernel_rfl
theorem Ri:Qm Tryz.prog 131 1=some (1,4):=by kernel_rfl
theorem fS:A0 Tryz.prog 131=true:=by kernel_rfl
theorem MW:Q8 Tryz.prog 131=some [.sl 0 0 (fun _=>.any) true,.bool false,.sl 0 0 (fun _=>.any) true,.bool false,.sl 0 0 (fun _=>.any) true]:=by kernel_rfl
theorem tJ:C8 Tryz.prog 142=some none:=by kernel_rfl
theorem l9:KK Tryz.prog 142=some 1:=by kernel_rfl
theorem sV:Ah Tryz.prog 142=some (86,1,24):=by kernel_rfl
theorem jg:C8 Tryz.prog 145=some none:=by kernel_rfl
theorem lc:KK Tryz.prog 145=some 1:=by kernel_rfl
theorem lU:Q8 Tryz.prog 145=some [.nil]:=by kernel_rfl
theorem iD:Bk Tryz.prog 148 0=some (0,1,none):=by kernel_rfl
theorem fY:Qm Tryz.prog 148 0=some (0,1):=by kernel_rfl
theorem iE:Bk Tryz.prog 148 1=some (1,1,none):=by kernel_rfl
theorem fZ:Qm Tryz.prog 148 1=some (1,1):=by kernel_rfl
theorem iF:Bk Tryz.prog 148 2=some (2,1,none):=by kernel_rfl
theorem g8:Qm Tryz.prog 148 2=some (2,1):=by kernel_rfl
theorem iG:Bk Tryz.prog 148 3=some (3,1,none):=by kernel_rfl
theorem iH:Bk Tryz.prog 148 4=some (4,1,none):=by kernel_rfl
theorem iI:Bk Tryz.prog 148 5=some (5,1,none):=by kernel_rfl
theorem sF:A0 Tryz.prog 148=true:=by kernel_rfl
theorem lV:Q8 Tryz.prog 148=some [.int .i64 0,.int .i64 0,.int .i64 0,.sl 0 0 (fun _=>.any) true,.sl 0 0 (fun _=>.any) true,.sl 0 0 (fun _=>.any) true]:=by kernel_rfl
theorem sW:Ah Tryz.prog 155=none:=by kernel_rfl
theorem g9:Qm Tryz.prog 155 0=some (0,1):=by kernel_rfl
theorem ga:Qm Tryz.prog 155 1=some (1,1):=by kernel_rfl
theorem sG:A0 Tryz.prog 155=true:=by kernel_rfl
theorem sd:dz Tryz.prog 155=some (2,1,none):=by kernel_rfl
theorem lW:Q8 Tryz.prog 155=some [.int .i64 0,.int .i64 0]:=by kernel_rfl
theorem sY:Ah Tryz.prog 156=some (155,2,16):=by kernel_rfl
theorem tK:C8 Tryz.prog 172=some none:=by kernel_rfl
theorem lf:KK Tryz.prog 172=some 1:=by kernel_rfl
theorem lX:Q8 Tryz.prog 172=some [.nilfn]:=by kernel_rfl
theorem tC:Wd Tryz.prog 185=some .u64:=by kernel_rfl
theorem tL:C8 Tryz.prog 198=some (some 3):=by kernel_rfl
theorem lg:KK Tryz.prog 198=some 3:=by kernel_rfl
theorem sZ:Ah Tryz.prog 198=none:=by kernel_rfl
theorem gb:Qm Tryz.prog 198 0=some (0,1):=by kernel_rfl
theorem gc:Qm Tryz.prog 198 1=some (1,1):=by kernel_rfl
theorem ge:Qm Tryz.prog 198 2=some (2,1):=by kernel_rfl
theorem sH:A0 Tryz.prog 198=true:=by kernel_rfl
theorem se:dz Tryz.prog 198=some (3,1,none):=by kernel_rfl
theorem lY:Q8 Tryz.prog 198=some [.int .i64 0,.int .i64 0,.int .i64 0]:=by kernel_rfl
theorem t8:Ah Tryz.prog 199=some (198,3,24):=by kernel_rfl
theorem tD:Wd Tryz.prog 214=some .u64:=by kernel_rfl
theorem mixed:Tryz.prog.follows .mixedOrders=true:=by kernel_rfl
theorem Fq {f:FuncId}{fn:Func}{body:Code}{args:List AV}{r:AV}(he:BI Tryz.prog f)(hf:Tryz.prog.funcs[f]?=some fn)(n0:Nat)(hid str hcs:List Nat)(hs:∀ a∈args,Settled a)(h:Run (Jv Tryz.prog fn str hcs r) [.code body] (AS.start n0 hid args [])) (hb:fn.body=some body:=by rfl) (hok:QA fn.ntmps str hcs body=true:=by kernel_rfl) (hlen:args.length≤fn.ntmps:=by exact Nat.le_of_ble_eq_true rfl):Fn Tryz.prog f args r:=Fn.intro he hf hb mixed n0 hid str hcs hok hlen hs h
set_option linter.defProp false in
def PJ:=XB @ww <| XB @uD <| XB @j8 <| XB @uP <| XB @xo <| XB @uE <| XB @sI <| XB @uQ <| XB @wu <| XB @pX <| XB @vY <| XB @wv <| XB @vZ <| XB @qw <| XB @XW <| XB @pY <| XB @nT <| XB @mO <| XB @nU <| XB @mP <| XB @vD <| XB @qx <| XB @XT <| XB @PE <| XB @nV <| XB @mQ <| XB @nW <| XB @mR <| XB @vE <| XB @H5 <| XB @J6 <| XB @DL <| XB @nX <| XB @mS <| XB @nY <| XB @mT <| XB @vG <| XB @qy <| XB @Bc <| XB @PF <| XB @nZ <| XB @mU <| XB @o8 <| XB @mV <| XB @o9 <| XB @mW <| XB @oa <| XB @mX <| XB @oc <| XB @mY <| XB @vH <| XB @qz <| XB @wa <| XB @wb <| XB @qX <| XB @pZ <| XB @od <| XB @mZ <| XB @oe <| XB @nc <| XB @og <| XB @nd <| XB @oh <| XB @ng <| XB @vI <| XB @qB <| XB @wc <| XB @ol <| XB @nh <| XB @oo <| XB @nl <| XB @vJ <| XB @qD <| XB @we <| XB @wx <| XB @oq <| XB @nm <| XB @ot <| XB @nn <| XB @ou <| XB @no <| XB @ov <| XB @np <| XB @ow <| XB @nq <| XB @ox <| XB @nr <| XB @vK <| XB @qE <| XB @qY <| XB @qa <| XB @gN <| XB @qZ <| XB @qc <| XB @kJ <| XB @HP <| XB @qF <| XB @r5 <| XB @qe <| XB @oy <| XB @ns <| XB @oz <| XB @oA <| XB @nt <| XB @vM <| XB @qG <| XB @r6 <| XB @qf <| XB @oB <| XB @nu <| XB @oC <| XB @nv <| XB @nw <| XB @oD <| XB @nz <| XB @vN <| XB @qH <| XB @Gg <| XB @qg <| XB @oE <| XB @nA <| XB @oF <| XB @nC <| XB @vO <| XB @qI <| XB @jf <| XB @kY <| XB @iv <| XB @fT <| XB @iw <| XB @fU <| XB @sD <| XB @lQ <| XB @sU <| XB @tH <| XB @kZ <| XB @ix <| XB @fV <| XB @iy <| XB @fW <| XB @iA <| XB @fX <| XB @sE <| XB @lS <| XB @tI <| XB @l6 <| XB @iB <| XB @Rh <| XB @iC <| XB @Ri <| XB @fS <| XB @MW <| XB @tJ <| XB @l9 <| XB @sV <| XB @jg <| XB @lc <| XB @lU <| XB @iD <| XB @fY <| XB @iE <| XB @fZ <| XB @iF <| XB @g8 <| XB @iG <| XB @iH <| XB @iI <| XB @sF <| XB @lV <| XB @sW <| XB @g9 <| XB @ga <| XB @sG <| XB @sd <| XB @lW <| XB @sY <| XB @tK <| XB @lf <| XB @lX <| XB @tC <| XB @tL <| XB @lg <| XB @sZ <| XB @gb <| XB @gc <| XB @ge <| XB @sH <| XB @se <| XB @lY <| XB @t8 <| @tD
set_option linter.defProp false in
def wA:=XB @wX <| XB @wW <| XB @wV <| XB @beq_self_eq_true.{0} <| XB @ite_true.{1} <| XB @ite_false.{1} <| XB @false_implies <| XB @true_implies <| XB @implies_true.{1} <| XB @implies_true.{0} <| XB @eq_self.{1} <| XB @ne_eq.{1} <| @PJ
theorem Xl {X:Env}{k:List Item}{s:AS}(h:QH (CC s) fun s=>vc X 1000 k s):Run X k s:=XL 1000 h
theorem Aw {m:Nat}{s s':AS}(h3:Xm s.sl s'.sl)(h5:s.h=s'.h)(h1:s'.n0=s.n0:=by rfl)(h4:Xy s.tm s'.tm:=by simp[Xy]):Sub m s s':=Xi h1 h3 h4 h5
theorem V3 {b m:Nat}{s s':AS}(h3:Xm s.sl s'.sl)(h5:s.h.take m=s'.h)(h6:∀ a∈s'.sl,Jo m a)(h8:∀ o∈s'.h,Qo m o)(h7:∀ p∈s'.tm,Jo m p.2:=by simp [XO])(h4:Xy s.tm s'.tm:=by simp [Xy])(h1:s'.n0=s.n0:=by rfl)(hbm:b≤m:=by exact Nat.zero_le _):Sub b s s':=XQ hbm h1 h3 h4 h5 h6 h7 h8
end Go.Ab.N
namespace Go.Ab.N
open Go Go.RowKit Go.Proofs
noncomputable section
set_option maxRecDepth 10000
set_option maxHeartbeats 2000000
open Classical
def jD (neg:Bool)(l:List Int):AV:=.agg [.bool (neg && decide (Au l l.length≠0)),X8 (l.take (Au l l.length))]
theorem Ks (neg:Bool)(l:List Int):Settled (jD neg l):=Xw (by simp[Xc,X5])
theorem wC (neg:Bool)(d:List Int)(hl:d.length<4611686018427387904):Fn Tryz.prog 182 [.bool neg,X8 d] (jD neg d):=by
 refine Fq Tryz.call182 Tryz.func182 6 [] [] [] (by simp[Xc,Xa,Kq,JC,X5,Kr,XE,Ks,J0]) (Xl ?_);simp(maxSteps:=999999)only[AS.start,↓X6,wA,seval,zA,wN];refine Xj (fun n:Nat=>⟨6,[],[.bool neg,X8 d,.any,.any,.ref 0 0 0,I n],[],[.row 0 2 (Xg [.bool false,.sl 0 0 (fun _=>.any) true])]⟩) (fun n=>n≤d.length∧Au d d.length=Au d n) (fun n=>n) d.length ⟨by omega,rfl⟩
  (Aw (by simp[zA,wN,Xm,X8,CS,Cc,Qs,I]) rfl) ?_
 rintro n ⟨hn,ht⟩ next
 cases n with
 |zero =>
  refine Xl ?_;simp only[Int.lt_irrefl,↓X6,wA,seval,zA,wN];refine GB (v:=.agg [.bool false,.sl 0 0 (fun _=>.any) false]) rfl (by simp[AS.get,Ql,XW,rd,Qv,Xg,Ej]) ?_;have e:jD neg d=.agg [.bool false,X8 []]:=by unfold jD;rw[ht];simp[Au]
  rw[e];exact GF ⟨Qa (X5 _) rfl,Xs (Xc _) (Qu _ _),trivial⟩
 |succ n =>
  have e0:(0<((n+1:Nat):Int))=True:=eq_true (by omega);have e1:(((n+1:Nat):Int)=0)=False:=eq_false (by omega);have w1:IntKind.i64.wrap (((n+1:Nat):Int)-1)=(n:Int):=by rw[IntKind.wrap_i64];omega
  have e2:(n<d.length)=True:=eq_true (by omega);refine Xl ?_;simp only[e0,e1,e2,w1,↓X6,wA,seval,zA,wN];refine⟨fun h0=>next n _ ⟨by omega,by rw[ht];simp only[Au];rw[if_pos h0]⟩ (by omega) (Aw (by simp[zA,wN,Xm,X8,CS,Cc,Qs,I]) rfl),fun h0=>⟨by omega,?_⟩⟩;have ht2:Au d d.length=n+1:=by rw[ht];simp only[Au];rw[if_neg h0]
  have e:jD neg d=.agg [.bool neg,X8 (d.take (n+1))]:=by unfold jD;rw[ht2];simp
  have hlen:(d.take (n+1)).length=n+1:=by rw[List.length_take];omega
  rw[e];refine GB (v:=.agg [.bool neg,.sl (n+1) (n+1) (fun j=>.int .i64 (d.getD j 0)) false]) rfl ?_ ?_
  ·have m1:min (n+1) d.length=n+1:=by omega
   simp[AS.get,Ql,XW,rd,Qv,Xg,Ej,m1]
  ·refine GF ⟨Qa (X5 _) rfl,Xs (Xc _) (GY _ hlen.symm (by omega) fun j hj=>?_),trivial⟩
   rw[hlen]at hj;rw[BD d 0 j (n+1) hj];rfl
set_option linter.defProp false in
def Kf:=XB @Xc (XB @Xa (XB @Kq (XB @JC (XB @X5 (XB @Kr (XB @XE (XB @Ks @J0)))))))
theorem lP (neg:Bool){u:Int}(h:0≤u):zA (KC neg u)=.agg [.bool (neg && decide (u≠0)),X8 (X9 u.toNat)]:=by
 unfold zA;have e1:(KC neg u).natAbs=u.toNat:=by unfold KC;split <;> omega
 rw[e1];congr 3;unfold KC;have h0':¬u<0:=by omega
 cases neg
 ·simp[h0']
 ·have:-u<0↔¬u=0:=by omega
  simp only[if_true,Bool.true_and,decide_eq_decide,ne_eq];exact this
def U (n:Int):AV:=.int .u64 n
theorem Zd (neg:Bool)(u:Int)(h0:0≤u)(h1:u<18446744073709551616):Fn Tryz.prog 181 [.bool neg,.int .u64 u] (zA (KC neg u)):=by
 obtain⟨R,hR⟩:∃R,R=zA (KC neg u):=⟨_,rfl⟩
 have eR:=hR.trans (lP neg h0);have sR:Settled R:=hR▸XE _;have b1:u≠0→(neg && decide (u≠0))=neg:=fun h=>by simp[h]
 have w1:IntKind.i64.wrap (u.tmod 1000000000)=u%1000000000:=by rw[IntKind.wrap_i64,Int.tmod_eq_emod_of_nonneg h0];omega
 have w2:IntKind.u64.wrap (u.tdiv 1000000000)=u/1000000000:=by rw[IntKind.wrap_u64,Int.tdiv_eq_ediv_of_nonneg h0];omega
 have h2:0≤u/1000000000:=by omega
 have w3:IntKind.i64.wrap (u/1000000000)=u/1000000000:=by rw[IntKind.wrap_i64];omega
 have w4:IntKind.i64.wrap ((u/1000000000).tmod 1000000000)=u/1000000000%1000000000:=by rw[IntKind.wrap_i64,Int.tmod_eq_emod_of_nonneg h2];omega
 have w5:IntKind.u64.wrap ((u/1000000000).tdiv 1000000000)=u/1000000000/1000000000:=by rw[IntKind.wrap_u64,Int.tdiv_eq_ediv_of_nonneg h2];omega
 have w6:IntKind.i64.wrap (u/1000000000/1000000000)=u/1000000000/1000000000:=by rw[IntKind.wrap_i64];omega
 rw[←hR];refine Fq Tryz.call181 Tryz.func181 6 [] [] [] (by simp[Kf]) (Xl ?_);simp(maxSteps:=999999)only[AS.start,↓X6,wA,↓reduceIte,reduceIte,reduceCtorEq,Y1,Y2,Y3,Y4,Y5,Y6,Y7,Y8,Y9,YA,zA,wN];simp only[w1,w2,w3,w4,w5,w6];refine⟨fun a=>?_,fun a0=>⟨fun a1=>?_,fun a1=>⟨fun a2=>⟨by omega,by omega,?_⟩,fun a2=>⟨by omega,by omega,by omega,by omega,by omega,?_⟩⟩⟩⟩
 ·rw[a,show(neg && decide ((0:Int)≠0))=false by simp,show(0:Int).toNat=0 from rfl,Qi]at eR
  exact Q9 rfl XW rfl rfl rfl eR sR ⟨Weak.rfl' _,Qu _ _,trivial⟩
 ·have w0:IntKind.i64.wrap u=u:=by rw[IntKind.wrap_i64];omega
  rw[b1 a0,G8 (by omega) (by omega),Int.toNat_of_nonneg h0]at eR;rw[w0];exact Q9 rfl XW rfl rfl rfl eR sR ⟨Weak.rfl' _,BH rfl rfl,trivial⟩
 ·rw[b1 a0,Rs (by omega) (by omega)]at eR
  have e1:((u.toNat%1000000000:Nat):Int)=u%1000000000:=by omega
  have e2:((u.toNat/1000000000:Nat):Int)=u/1000000000:=by omega
  rw[e1,e2]at eR;exact Q9 rfl XW rfl rfl rfl eR sR ⟨Weak.rfl' _,BH rfl rfl,trivial⟩
 ·rw[b1 a0,Uj (by omega) (by omega)]at eR
  have e1:((u.toNat%1000000000:Nat):Int)=u%1000000000:=by omega
  have e2:((u.toNat/1000000000%1000000000:Nat):Int)=u/1000000000%1000000000:=by omega
  have e3:((u.toNat/1000000000/1000000000:Nat):Int)=u/1000000000/1000000000:=by omega
  rw[e1,e2,e3]at eR;exact Q9 rfl XW rfl rfl rfl eR sR ⟨Weak.rfl' _,BH rfl rfl,trivial⟩
theorem Pj (z:Int):Fn Tryz.prog 187 [zA z] (zA (-z)):=by
 have e:(-z).natAbs=z.natAbs:=by omega
 have e0:z.natAbs=0↔z=0:=by omega
 have e1:(X9 z.natAbs).length=0↔z=0:=digs_len_zero.trans e0;refine Fq Tryz.call187 Tryz.func187 3 [] [] [] (by simp[Kf]) (Xl ?_);simp(maxSteps:=999999)only[AS.start,↓X6,wA,↓reduceIte,reduceIte,reduceCtorEq,Y1,Y2,Y3,Y4,Y5,Y6,Y7,Y8,Y9,YA,zA,wN];refine⟨fun h=>Q9 rfl XW rfl rfl rfl rfl (XE _) ?_,fun h=>Q9 rfl XW rfl rfl rfl rfl (XE _) ?_⟩
 ·rw[e]
  have:decide (-z<0)=decide (0<((X9 z.natAbs).length:Int)):=by rw[decide_eq_decide];omega
  rw[this];exact⟨Weak.rfl' _,Weak.rfl' _,trivial⟩
 ·rw[e,show decide (-z<0)=false from decide_eq_false (by omega)]
  exact⟨Weak.rfl' _,Weak.rfl' _,trivial⟩
theorem pL (z:Int):Fn Tryz.prog 191 [zA z] (I z.sign):=by
 have e0:z.natAbs=0↔z=0:=by omega
 have e1:(X9 z.natAbs).length=0↔z=0:=digs_len_zero.trans e0;refine Fq Tryz.call191 Tryz.func191 4 [] [] [] (by simp[Kf]) (Xl ?_);simp(maxSteps:=999999)only[AS.start,↓X6,wA,↓reduceIte,reduceIte,reduceCtorEq,Y1,Y2,Y3,Y4,Y5,Y6,Y7,Y8,Y9,YA,zA,wN];refine⟨fun h=>Xk rfl rfl (Xa _) ?_,fun h=>⟨fun h2=>Xk rfl rfl (Xa _) ?_,fun h2=>Xk rfl rfl (Xa _) ?_⟩⟩
 ·rw[Int.sign_eq_neg_one_of_neg h];rfl
 ·rw[e1.1 (by omega)];rfl
 ·rw[Int.sign_eq_one_of_pos (by omega)];rfl
theorem PG (d:List Int)(h:Ji d):Fn Tryz.prog 223 [X8 d] (.tup [I (if d.length≤2 then val d else 0),.bool (decide (d.length≤2))]):=by
 have k2:¬d.length≤2→I 0=I (if d.length≤2 then val d else 0)∧AV.bool false=.bool (decide (d.length≤2)):=fun h=>by simp[h]
 have k1:d.length≤2→∀x,x=val d→I x=I (if d.length≤2 then val d else 0)∧AV.bool true=.bool (decide (d.length≤2)):=fun h x hx=>by simp[h,hx]
 refine Fq Tryz.call223 Tryz.func223 4 [5] [] [] (by simp[Kf]) (Xl ?_);simp(maxSteps:=999999)only[AS.start,↓X6,wA,↓reduceIte,reduceIte,reduceCtorEq,Y1,Y2,Y3,Y4,Y5,Y6,Y7,Y8,Y9,YA,zA,wN];have fin:∀ {s:AS} {x:Int},s.get 2=I x→s.get 3=.bool true→d.length≤2→x=val d→RetOk (Jv Tryz.prog Tryz.f223 [] [] (.tup [I (if d.length≤2 then val d else 0),.bool (decide (d.length≤2))])) s:=fun h1 h2 hl hx =>
  kc rfl h1 h2 (Xa _) (X5 _) (k1 hl _ hx).1 (k1 hl _ hx).2
 refine⟨fun a=>fin rfl rfl (by omega) ?_,fun a0=>⟨fun a=>⟨by omega,by omega,fin rfl rfl (by omega) ?_⟩,fun a1=>⟨fun a=>⟨⟨by omega,by omega⟩,by omega,by omega,by omega,fin rfl rfl (by omega) ?_⟩,fun a2=>kc rfl rfl rfl (Xa _) (X5 _) (k2 (by omega)).1 (k2 (by omega)).2⟩⟩⟩
 ·obtain rfl:d=[]:=List.length_eq_zero_iff.1 (by omega)
  rfl
 ·obtain⟨x,rfl⟩:=List.length_eq_one_iff.1 (show d.length=1 by omega)
  simp[val]
 ·obtain⟨x,y,rfl⟩:∃x y,d=[x,y]:=by
   match d,a with
   | [x,y],_=>exact⟨x,y,rfl⟩
   | [],h=>exact absurd h (by simp)
   | [_],h=>exact absurd h (by simp)
   |_ :: _ :: _ :: _,h=>exact absurd h (by simp;omega)
  have h1:=h x (by simp);have h2:=h y (by simp);unfold Q7 at h1 h2;simp only[List.getD_cons_zero,List.getD_cons_succ,val,IntKind.wrap_i64];omega
theorem RT (a:Int):Fn Tryz.prog 240 [I a] (.bool false):=by
 refine Fq Tryz.call240 Tryz.func240 3 [] [] [] (by simp[Kf]) (Xl ?_);simp(maxSteps:=999999)only[AS.start,↓X6,wA,↓reduceIte,reduceIte,reduceCtorEq,Y1,Y2,Y3,Y4,Y5,Y6,Y7,Y8,Y9,YA,zA,wN];exact Xk rfl rfl (X5 _) rfl
theorem VO (a b:Int):Fn Tryz.prog 225 [I a,I b] (I (a-b).sign):=by
 refine Fq Tryz.call225 Tryz.func225 7 [] [] [] (by simp[Kf]) (Xl ?_);simp(maxSteps:=999999)only[AS.start,↓X6,wA,↓reduceIte,reduceIte,reduceCtorEq,Y1,Y2,Y3,Y4,Y5,Y6,Y7,Y8,Y9,YA,zA,wN];refine X1 (RT a) rfl ?_;simp only[↓X6,wA,↓reduceIte,reduceIte,reduceCtorEq,Y1,Y2,Y3,Y4,Y5,Y6,Y7,Y8,Y9,YA,zA,wN];refine X1 (RT b) rfl ?_;simp only[↓X6,wA,↓reduceIte,reduceIte,reduceCtorEq,Y1,Y2,Y3,Y4,Y5,Y6,Y7,Y8,Y9,YA,zA,wN];refine⟨fun h=>Xk rfl rfl (Xa _) ?_,fun h=>⟨fun h2=>Xk rfl rfl (Xa _) ?_,fun h2=>Xk rfl rfl (Xa _) ?_⟩⟩
 ·rw[Int.sign_eq_neg_one_of_neg (by omega)];rfl
 ·rw[Int.sign_eq_one_of_pos (by omega)];rfl
 ·rw[show a-b=0 by omega];rfl
theorem gr {a b:List Int}(ha:Ji a)(hb:Ji b)(hl:a.length=b.length){i:Nat}(hi:i<a.length)(he:a.drop (i+1)=b.drop (i+1)) (hne:a.getD i 0≠b.getD i 0) :
  (val a-val b).sign=(a.getD i 0-b.getD i 0).sign:=by
 rw[Jq a i (by omega),Jq b i (by omega),Kn a i hi,Kn b i (by omega),he];have h1:=Q3 (QD ha i);have h2:=Q3 (QD hb i);have h3:=ZE (QD ha i);have h4:=ZE (QD hb i);have e1:(a.take i).length=i:=by rw[List.length_take];omega
 have e2:(b.take i).length=i:=by rw[List.length_take];omega
 rw[e1]at h3;rw[e2]at h4;generalize val (a.take i)=p at *;generalize val (b.take i)=q at *;generalize val (b.drop (i+1))=r at *;generalize a.getD i 0=x at *;generalize b.getD i 0=y at *;have hp:=Jk i;generalize pw i=P at *;have e:p+P*(x+1000000000*r)-(q+P*(y+1000000000*r))=(p-q)+P*(x-y):=by grind
 rw[e];rcases Int.lt_or_gt_of_ne hne with h |h
 ·rw[Int.sign_eq_neg_one_of_neg (show x-y<0 by omega)]
  have:P*(x-y)≤P*(-1):=Int.mul_le_mul_of_nonneg_left (by omega) (by omega);exact Int.sign_eq_neg_one_of_neg (by omega)
 ·rw[Int.sign_eq_one_of_pos (show 0<x-y by omega)]
  have:P*1≤P*(x-y):=Int.mul_le_mul_of_nonneg_left (by omega) (by omega);exact Int.sign_eq_one_of_pos (by omega)
theorem E4 {a b:List Int}(ha:Af a)(hb:Af b)(h:a.length<b.length):val a<val b:=by
 have h1:=ZE ha.1;have hne:b≠[]:=fun e=>by rw[e]at h;simp at h
 have h2:=CL hb hne;have h3:=Cj (show a.length≤b.length-1 by omega);omega
theorem Ga {a b:List Int}(hl:a.length=b.length){i:Nat}(hi:i<a.length)(he:a.drop (i+1)=b.drop (i+1)) (h:a.getD i 0=b.getD i 0):a.drop i=b.drop i:=by
 have hi2:i<b.length:=by omega
 rw[List.drop_eq_getElem_cons hi,List.drop_eq_getElem_cons hi2,he];rw[List.getD_eq_getElem?_getD,List.getElem?_eq_getElem hi,List.getD_eq_getElem?_getD,List.getElem?_eq_getElem hi2]at h;simp only[Option.getD_some]at h;rw[h]
theorem Di (a b:List Int)(ha:Af a)(hb:Af b)(la:a.length<4611686018427387904):Fn Tryz.prog 189 [X8 a,X8 b] (I (val a-val b).sign):=by
 have hc:a.length≠b.length→Fn Tryz.prog 225 [I a.length,I b.length] (I (val a-val b).sign):=fun h=>by
  have e:((a.length:Int)-b.length).sign=(val a-val b).sign:=by
   rcases Nat.lt_or_gt_of_ne h with h' |h'
   ·have:=E4 ha hb h'
    rw[Int.sign_eq_neg_one_of_neg (by omega),Int.sign_eq_neg_one_of_neg (by omega)]
   ·have:=E4 hb ha h'
    rw[Int.sign_eq_one_of_pos (by omega),Int.sign_eq_one_of_pos (by omega)]
  rw[←e];exact VO _ _
 refine Fq Tryz.call189 Tryz.func189 6 [] [] [] (by simp[Kf]) (Xl ?_);simp(maxSteps:=999999)only[AS.start,↓X6,wA,seval,zA,wN];refine⟨fun h=>X1 (hc h) rfl ?_,fun hl=>?_⟩
 ·simp only[↓X6,wA,seval,zA,wN]
  exact Xk rfl rfl (Xa _) rfl
 refine Xj (fun k:Nat=>⟨6,[],[X8 a,X8 b,.any,.any,I 0,I ((k:Int)-1)],[],[]⟩) (fun k=>k≤a.length∧a.drop k=b.drop k) (fun k=>k) a.length ⟨by omega,by rw[List.drop_length,hl,List.drop_length]⟩
  ?_ ?_
 ·have w0:IntKind.i64.wrap ((a.length:Int)-1)=(a.length:Int)-1:=by rw[IntKind.wrap_i64];omega
  rw[w0];exact(Aw (by simp[zA,wN,Xm,X8,CS,Cc,Qs,I]) rfl)
 rintro k ⟨hk,he⟩ next
 cases k with
 |zero =>
  refine Xl ?_;have e0:(0≤((0:Nat):Int)-1)=False:=eq_false (by omega);have e1:((0:Int)≤0-1)=False:=eq_false (by omega);simp only[e0,e1,↓X6,wA,seval,zA,wN];refine Xk rfl rfl (Xa _) ?_;rw[List.drop_zero,List.drop_zero]at he;rw[he,Int.sub_self];rfl
 |succ k =>
  have e1:((k+1:Nat):Int)-1=(k:Int):=by omega
  have w1:IntKind.i64.wrap ((k:Int)-1)=(k:Int)-1:=by rw[IntKind.wrap_i64];omega
  have e2:((k:Int)<a.length)=True:=eq_true (by omega);have e3:(k<a.length)=True:=eq_true (by omega);have e4:(k<b.length)=True:=eq_true (by omega);have hcm:a.getD k 0≠b.getD k 0→Fn Tryz.prog 225 [I (a.getD k 0),I (b.getD k 0)] (I (val a-val b).sign):=fun h=>by
   rw[gr ha.1 hb.1 hl (by omega) he h];exact VO _ _
  refine Xl ?_;simp only[e1,w1,e3,e4,↓X6,wA,seval,zA,wN];refine⟨fun h=>X1 (hcm h) rfl ?_,fun h=>next k _ ⟨by omega,Ga hl (by omega) he h⟩ (by omega) (Aw (by simp[zA,wN,Xm,X8,CS,Cc,Qs,I]) rfl)⟩;simp only[↓X6,wA,seval,zA,wN];exact Xk rfl rfl (Xa _) rfl
theorem FK (n:Int)(h:KT n):Fn Tryz.prog 112 [I n] (zA n):=by
 obtain⟨R,hR⟩:∃R,R=zA n:=⟨_,rfl⟩
 have sR:Settled R:=hR▸XE _;unfold KT at h;have c1:n<0→Fn Tryz.prog 181 [.bool (decide (n<0)),.int .u64 (IntKind.u64.wrap (0-IntKind.u64.wrap n))] R:=fun h1=>by
  have e:IntKind.u64.wrap (0-IntKind.u64.wrap n) = -n:=by rw[IntKind.wrap_u64,IntKind.wrap_u64];omega
  have e2:KC (decide (n<0)) (-n)=n:=by unfold KC;rw[if_pos (decide_eq_true h1)];omega
  have:=Zd (decide (n<0)) (-n) (by omega) (by omega);rw[e2]at this;rw[e,hR];exact this
 have c2:¬n<0→Fn Tryz.prog 181 [.bool (decide (n<0)),.int .u64 (IntKind.u64.wrap n)] R:=fun h1=>by
  have e:IntKind.u64.wrap n=n:=by rw[IntKind.wrap_u64];omega
  have e2:KC (decide (n<0)) n=n:=by unfold KC;rw[if_neg (by simp;omega)]
  have:=Zd (decide (n<0)) n (by omega) (by omega);rw[e2]at this;rw[e,hR];exact this
 rw[←hR];refine Fq Tryz.call112 Tryz.func112 4 [] [] [] (by simp[Kf]) (Xl ?_);simp(maxSteps:=999999)only[AS.start,↓X6,wA,seval,zA,wN];refine⟨fun h1=>X1 (c1 h1) rfl ?_,fun h1=>X1 (c2 h1) rfl ?_⟩
 ·simp only[hR,↓X6,wA,seval,zA,wN]
  exact Q9 rfl XW rfl rfl rfl hR sR ⟨Weak.rfl' _,Weak.rfl' _,trivial⟩
 ·simp only[hR,↓X6,wA,seval,zA,wN]
  exact Q9 rfl XW rfl rfl rfl hR sR ⟨Weak.rfl' _,Weak.rfl' _,trivial⟩
end
end Go.Ab.N
