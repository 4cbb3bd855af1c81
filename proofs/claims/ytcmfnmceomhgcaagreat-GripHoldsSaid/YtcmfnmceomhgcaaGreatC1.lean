/- Contracts of functions, for every argument that fits. -/
import Derived.Test.YtcmfnmceomhgcaaGreatAb4
import Derived.Test.YtcmfnmceomhgcaaGreatRows
import Derived.KernelRfl
set_option linter.unusedSimpArgs false
set_option linter.unusedVariables false
open Nat renaming reducePow → Y1, reduceLT → Y2, reduceLeDiff → Y3, reduceEqDiff → Y4, reduceAdd → Y5, reduceMul → Y6, reduceSub → Y7, reduceBEq → Y8, reduceDiv → Y9, reduceMod → YA
open And renaming intro→Q'
open Go.Ab.AS renaming start→O_
open Go.IntKind renaming i64→Q_,wrap_u64→ZAi,u64→ZAq
open Int renaming mul_assoc→ZBB,toNat_of_nonneg→ZB8
open List renaming drop_eq_getElem_cons→ZBU,length_eq_zero_iff→ZBe,getD_cons_succ→ZCj,drop_length→ZDF,drop_eq_nil_iff→ZDw,length_pos_iff→ZD0
open Nat renaming min_eq_left→ZA1,strongRecOn→ZDE,exists_eq_add_of_le→ZDd,add_sub_cancel→ZEF
namespace Go.Ab.N
open Go.Ab
open Classical
theorem K_:type_of%@Nat.le_of_ble_eq_true:=@Nat.le_of_ble_eq_true
theorem R_:type_of%@eq_false:=@eq_false
theorem U_:type_of%@Go.Ab.B'.B_:=@Go.Ab.B'.B_
theorem X':type_of%@Int.mul_le_mul_of_nonneg_left:=@Int.mul_le_mul_of_nonneg_left
theorem Y':type_of%@Classical.byContradiction:=@Classical.byContradiction
theorem Z_:type_of%@decide_eq_false:=@decide_eq_false
theorem c_:type_of%@decide_eq_true:=@decide_eq_true
theorem l_:type_of%@Int.mul_le_mul_of_nonneg_right:=@Int.mul_le_mul_of_nonneg_right
theorem o_:type_of%@Int.sign_eq_neg_one_of_neg:=@Int.sign_eq_neg_one_of_neg
theorem q_:type_of%@Go.Ab.Fn.intro:=@Go.Ab.Fn.intro
theorem r_:type_of%@Int.tdiv_eq_ediv_of_nonneg:=@Int.tdiv_eq_ediv_of_nonneg
theorem u_:type_of%@Int.sign_eq_one_of_pos:=@Int.sign_eq_one_of_pos
theorem ZAM:type_of%@Int.lt_irrefl:=@Int.lt_irrefl
theorem ZAW:type_of%@List.take_length:=@List.take_length
theorem ZAd:type_of%@List.mem_or_eq_of_mem_set:=@List.mem_or_eq_of_mem_set
theorem ZBP:type_of%@Int.mul_nonneg:=@Int.mul_nonneg
theorem ZBf:type_of%@List.ext_getElem:=@List.ext_getElem
theorem ZBg:type_of%@List.drop_zero:=@List.drop_zero
theorem ZBl:type_of%@List.length_eq_one_iff:=@List.length_eq_one_iff
theorem ZDY:type_of%@Int.mul_add:=@Int.mul_add
theorem ZEH:type_of%@Int.ediv_nonneg:=@Int.ediv_nonneg
noncomputable section
def pw:Nat→Int
 |0=>1
 |n+1=>1000000000*pw n
theorem JP:∀n,0<pw n
 |0=>by simp[pw]
 |n+1=>by have:=JP n;simp only[pw];omega
theorem E5 (m n:Nat):pw (m+n)=pw m*pw n:=by
 induction m with
 |zero=>simp[pw]
 |succ m ih=>rw[show m+1+n=(m+n)+1 by omega];simp only[pw];rw[ih,ZBB]
theorem CU {m n:Nat}(h:m≤n):pw m≤pw n:=by
 obtain⟨k,rfl⟩:=ZDd h
 induction k with
 |zero=>exact ZB2 _
 |succ k ih =>
  have h1:=ih (by omega);have h2:=JP (m+k);rw[show m+(k+1)=(m+k)+1 by omega];simp only[pw];omega
def val:List Int→Int
 | []=>0
 |d :: l=>d+1000000000*val l
def Qi (d:Int):Prop:=0≤d∧d<1000000000
def JO (l:List Int):Prop:=∀d∈l,Qi d
def AP (l:List Int):Prop:=JO l∧(l≠[]→l.getD (l.length-1) 0≠0)
theorem CP:JO []:=fun _ h=>by cases h
theorem ZD {d:Int}{l:List Int}:JO (d :: l)↔Qi d∧JO l:=by unfold JO;simp
theorem LA {l m:List Int}:JO (l ++ m)↔JO l∧JO m:=by
 unfold JO;constructor
 ·exact fun h=>⟨fun d hd=>h d (List.mem_append_left _ hd),fun d hd=>h d (List.mem_append_right _ hd)⟩
 ·rintro⟨h1,h2⟩ d hd
  rcases n_.1 hd with h |h
  ·exact h1 d h
  ·exact h2 d h
theorem JW {l:List Int}(h:JO l)(i:Nat):Qi (l.getD i 0):=by
 by_cases hi:i<l.length
 ·exact h _ (H5 hi)
 ·rw[K',k_ (by omega)];exact⟨by simp,by simp⟩
theorem J0 {l:List Int}(h:JO l)(n:Nat):JO (l.take n):=fun d hd=>h d (List.mem_of_mem_take hd)
theorem Ow {l:List Int}(h:∀i,i<l.length→Qi (l.getD i 0)):JO l:=by
 intro d hd;obtain⟨i,hi,rfl⟩:=ZAT hd;have:=h i hi;rwa[K',V' hi]at this
theorem Qc {l:List Int}(h:JO l):0≤val l:=by
 induction l with
 |nil=>exact ZB2 0
 |cons d l ih =>
  obtain⟨h1,h2⟩:=ZD.1 h;have:=ih h2;simp only[val];unfold Qi at h1;omega
theorem Ah {l:List Int}(h:JO l):val l<pw l.length:=by
 induction l with
 |nil=>simp[val,pw]
 |cons d l ih =>
  obtain⟨h1,h2⟩:=ZD.1 h;have:=ih h2;simp only[val,ZAA,pw];unfold Qi at h1;omega
theorem RS (l m:List Int):val (l ++ m)=val l+pw l.length*val m:=by
 induction l with
 |nil=>simp[val,pw]
 |cons d l ih =>
  simp only[e_,val,ZAA,pw];rw[ih,ZDY,ZBB];omega
theorem Fl (l:List Int)(x:Int):val (l ++ [x])=val l+pw l.length*x:=by
 rw[RS];simp[val]
theorem JM (l:List Int)(i:Nat)(h:i<l.length:=by omega):val (l.take (i+1))=val (l.take i)+pw i*l.getD i 0:=by
 rw[ND l 0 i h,Fl,v_,ZA1 (by omega)]
theorem FR (n:Nat):val (List.replicate n 0)=0:=by
 induction n with
 |zero=>rfl
 |succ n ih=>simp[List.replicate_succ,val,ih]
theorem Dl {l:List Int}(h:AP l)(hne:l≠[]):pw (l.length-1)≤val l:=by
 have hl:=h.2 hne;have hlen:0<l.length:=ZD0.2 hne;have e:=JM l (l.length-1);rw[show l.length-1+1=l.length by omega,ZAW]at e;have h1:=Qc (J0 h.1 (l.length-1));have h2:=JW h.1 (l.length-1);have h3:=JP (l.length-1);have h4:pw (l.length-1)*1≤pw (l.length-1)*l.getD (l.length-1) 0:=X' (by unfold Qi at h2;omega) (by omega);omega
theorem LV:∀ {a b:List Int},JO a→JO b→a.length=b.length→val a=val b→a=b
 | [],[],_,_,_,_=>rfl
 | [],_ :: _,_,_,h,_=>by simp at h
 |_ :: _,[],_,_,h,_=>by simp at h
 |x :: a,y :: b,ha,hb,hl,hv=>by
  obtain⟨h1,h2⟩:=ZD.1 ha;obtain⟨h3,h4⟩:=ZD.1 hb;simp only[val]at hv;unfold Qi at h1 h3;have hxy:x=y:=by omega
  have hv':val a=val b:=by omega
  rw[hxy,LV h2 h4 (by simpa using hl) hv']
theorem cW {a b:List Int}(ha:AP a)(hb:AP b)(h:val a=val b):a=b:=by
 have key:∀ {a b:List Int},AP a→AP b→val a=val b→a.length≤b.length→a=b:=by
  intro a b ha hb h hl;by_cases e:a.length=b.length
  ·exact LV ha.1 hb.1 e h
  ·exfalso
   have hne:b≠[]:=fun e'=>by
    have:b.length=0:=by rw[e'];rfl
    omega
   have h1:=Dl hb hne;have h2:=Ah ha.1;have h3:=CU (show a.length≤b.length-1 by omega);omega
 rcases Nat.le_total a.length b.length with hl |hl
 ·exact key ha hb h hl
 ·exact(key hb ha h.symm hl).symm
def Xa (n:Nat):List Int:=if h:n=0 then []else((n%1000000000:Nat):Int) :: Xa (n/1000000000)
termination_by n
decreasing_by omega
theorem Qu:Xa 0=[]:=by rw[Xa];simp
theorem BK {n:Nat}(h:n≠0):Xa n=((n%1000000000:Nat):Int) :: Xa (n/1000000000):=by rw[Xa];simp[h]
theorem XJ (n:Nat):val (Xa n)=n:=by
 induction n using ZDE with
 |ind n ih =>
  by_cases h:n=0
  ·subst h;rw[Qu];rfl
  ·rw[BK h]
   simp only[val];rw[ih (n/1000000000) (by omega)];omega
theorem XW (n:Nat):JO (Xa n):=by
 induction n using ZDE with
 |ind n ih =>
  by_cases h:n=0
  ·subst h;rw[Qu];exact CP
  ·rw[BK h]
   exact ZD.2 ⟨⟨by omega,by omega⟩,ih _ (by omega)⟩
theorem LB {n:Nat}(h:n≠0):Xa n≠[]:=by rw[BK h];simp
theorem R9 {n:Nat}:Xa n=[]↔n=0:=⟨fun h=>Y' fun e=>LB e h,fun h=>by rw[h];exact Qu⟩
theorem Q4 (n:Nat):AP (Xa n):=by
 refine⟨XW n,?_⟩
 induction n using ZDE with
 |ind n ih =>
  intro hne;by_cases h:n=0
  ·subst h;exact absurd Qu hne
  ·rw[BK h]
   by_cases h2:n/1000000000=0
   ·rw[h2,Qu];simp;omega
   ·have hn:=LB h2
    have:=ih (n/1000000000) (by omega) hn;obtain⟨k,hk⟩:∃k,(Xa (n/1000000000)).length=k+1:=⟨(Xa (n/1000000000)).length-1,by have:=ZD0.2 hn;omega⟩
    simp only[ZAA,hk,ZEF]at this ⊢
    simpa using this
theorem BC {l:List Int}(h:AP l):Xa (val l).toNat=l:=by
 refine cW (Q4 _) h ?_;rw[XJ];have:=Qc h.1;omega
theorem sI {l:List Int}(h:JO l):((val l).toNat:Int)=val l:=ZB8 (Qc h)
def B9 (l:List Int):Nat→Nat
 |0=>0
 |n+1=>if l.getD n 0=0 then B9 l n else n+1
theorem aS (l:List Int):∀n,B9 l n≤n
 |0=>N' _
 |n+1=>by
  simp only[B9]
  split
  ·exact Nat.le_succ_of_le (aS l n)
  ·exact N' _
theorem UA {l:List Int}:∀n,n≤l.length→val (l.take (B9 l n))=val (l.take n)
 |0,_=>rfl
 |n+1,h=>by
  simp only[B9]
  split
  ·rename_i e
   rw[UA n (by omega),JM l n h,e];simp
  ·rfl
theorem WI {l:List Int}(h:JO l)(n:Nat)(hn:n≤l.length):AP (l.take (B9 l n)):=by
 refine⟨J0 h _,fun hne=>?_⟩
 induction n with
 |zero=>simp[B9]at hne
 |succ n ih =>
  simp only[B9]at hne ⊢
  split
  ·rename_i e;rw[N_ e]at hne;exact ih (by omega) hne
  ·rename_i e
   rw[v_,ZA1 hn,ZEF,Cm l 0 n (n+1)];exact e
theorem go {l:List Int}(h:JO l):l.take (B9 l l.length)=Xa (val l).toNat:=by
 have h1:=WI h l.length (N' _);rw[←BC h1,UA _ (N' _),ZAW]
def sm (f:Nat→Int):Nat→Int
 |0=>0
 |n+1=>sm f n+pw n*f n
def BH (f:Nat→Int)(n:Nat):List Int:=(List.range n).map f
theorem Qq (f:Nat→Int)(n:Nat):(BH f n).length=n:=by simp[BH]
theorem Fj (f:Nat→Int)(n:Nat):BH f (n+1)=BH f n ++ [f n]:=by simp[BH,List.range_succ]
theorem Da (f:Nat→Int)(n i:Nat)(h:i<n):(BH f n).getD i 0=f i:=by simp[BH,K',h]
theorem Zs {f f':Nat→Int}{n:Nat}(h:∀k,k<n→f k=f' k):BH f n=BH f' n:=ZAh fun k hk=>h k (by simpa using hk)
theorem HX (f:Nat→Int):∀n,val (BH f n)=sm f n
 |0=>rfl
 |n+1=>by rw[Fj,Fl,Qq,HX f n];rfl
theorem aI (l:List Int):∀n,n≤l.length→sm (fun i=>l.getD i 0) n=val (l.take n)
 |0,_=>rfl
 |n+1,h=>by rw[JM l n h,←aI l n (by omega)];rfl
theorem xg (l:List Int)(n:Nat)(h:l.length≤n):sm (fun i=>l.getD i 0) n=val l:=by
 obtain⟨k,rfl⟩:=ZDd h
 induction k with
 |zero=>rw[ZAm,aI l _ (N' _),ZAW]
 |succ k ih =>
  rw[show l.length+(k+1)=(l.length+k)+1 by omega];simp only[sm];rw[ih (by omega)];have:l.getD (l.length+k) 0=0:=by rw[K',k_ (by omega)];rfl
  rw[this];simp
theorem DW {f:Nat→Int}{n:Nat}(h:∀i,i<n→Qi (f i)):JO (BH f n):=by
 refine Ow fun i hi=>?_
 rw[Qq]at hi;rw[Da _ _ _ hi];exact h i hi
def Qt (a b:Nat→Int):Nat→Int
 |0=>0
 |i+1=>if 1000000000≤a i+b i+Qt a b i then 1 else 0
def Be (a b:Nat→Int)(i:Nat):Int:=if 1000000000≤a i+b i+Qt a b i then a i+b i+Qt a b i-1000000000 else a i+b i+Qt a b i
theorem ED (a b:Nat→Int):∀i,Qt a b i=0∨Qt a b i=1
 |0=>.inl rfl
 |i+1=>by simp only[Qt];split <;> simp
theorem Sg {a b:Nat→Int}{i:Nat}(ha:Qi (a i)) (hb:Qi (b i)):Qi (Be a b i):=by
 have:=ED a b i;unfold Qi at *;unfold Be
 split <;> omega
theorem PI (a b:Nat→Int):∀n,sm (Be a b) n+pw n*Qt a b n=sm a n+sm b n
 |0=>by simp[sm,Qt]
 |n+1=>by
  have ih:=PI a b n;have e:Be a b n+1000000000*Qt a b (n+1)=a n+b n+Qt a b n:=by
   simp only[Be,Qt]
   split <;> omega
  simp only[sm,pw];have:pw n*(Be a b n+1000000000*Qt a b (n+1))=pw n*(a n+b n+Qt a b n):=by rw[e]
  grind
def Kl (a b:Nat→Int):Nat→Int
 |0=>0
 |i+1=>if a i-b i-Kl a b i<0 then 1 else 0
def C5 (a b:Nat→Int)(i:Nat):Int:=if a i-b i-Kl a b i<0 then a i-b i-Kl a b i+1000000000 else a i-b i-Kl a b i
theorem HN (a b:Nat→Int):∀i,Kl a b i=0∨Kl a b i=1
 |0=>.inl rfl
 |i+1=>by simp only[Kl];split <;> simp
theorem Ur {a b:Nat→Int}{i:Nat}(ha:Qi (a i)) (hb:Qi (b i)):Qi (C5 a b i):=by
 have:=HN a b i;unfold Qi at *;unfold C5
 split <;> omega
theorem RL (a b:Nat→Int):∀n,sm (C5 a b) n-pw n*Kl a b n=sm a n-sm b n
 |0=>by simp[sm,Kl]
 |n+1=>by
  have ih:=RL a b n;have e:C5 a b n-1000000000*Kl a b (n+1)=a n-b n-Kl a b n:=by
   simp only[C5,Kl]
   split <;> omega
  simp only[sm,pw];have:pw n*(C5 a b n-1000000000*Kl a b (n+1))=pw n*(a n-b n-Kl a b n):=by rw[e]
  grind
theorem uh {f:Nat→Int}:∀ {n:Nat},(∀i,i<n→Qi (f i))→0≤sm f n∧sm f n<pw n
 |0,_=>by simp[sm,pw]
 |n+1,h=>by
  obtain⟨h1,h2⟩:=uh (n:=n) fun i hi=>h i (by omega)
  have h3:=h n (by omega);have h4:=JP n;unfold Qi at h3;have h5:pw n*f n≤pw n*999999999:=X' (by omega) (by omega);have h6:0≤pw n*f n:=ZBP (by omega) h3.1;simp only[sm,pw];omega
theorem aM {a b:Nat→Int}{n:Nat}(ha:∀i,i<n→Qi (a i)) (hb:∀i,i<n→Qi (b i)) (h:sm b n≤sm a n):Kl a b n=0:=by
 have h1:=RL a b n;have h2:=(uh (f:=C5 a b) (n:=n) fun i hi=>Ur (ha i hi) (hb i hi)).2;rcases HN a b n with e |e
 ·exact e
 ·rw[e]at h1;omega
theorem QM (l:List Int)(i j:Nat)(x:Int)(hi:i<l.length:=by omega):(l.set i x).getD j 0=if j=i then x else l.getD j 0:=by
 simp only[K',List.getElem?_set];by_cases h:i=j
 ·subst h;simp[hi]
 ·simp[h,w_ h]
theorem D3:∀ (l:List Int) (i:Nat) (x:Int),i<l.length→val (l.set i x)=val l+pw i*(x-l.getD i 0)
 | [],_,_,h=>by simp at h
 |d :: l,0,x,_=>by simp[val,pw];omega
 |d :: l,i+1,x,h=>by
  have ih:=D3 l i x (by simpa using h);simp only[List.set_cons_succ,val,pw,ZCj];rw[ih,ZDY,ZBB];omega
theorem Fw {l:List Int}(h:JO l)(i:Nat){x:Int}(hx:Qi x):JO (l.set i x):=fun d hd=>by
 rcases ZAd hd with e |e
 ·exact h d e
 ·rw[e];exact hx
theorem Cv {x y:Int}(hx:Qi x)(hy:Qi y):0≤x*y∧x*y≤999999998000000001:=by
 unfold Qi at hx hy;have h1:0≤x*y:=ZBP hx.1 hy.1;have h2:x*y≤999999999*y:=l_ (by omega) hy.1;omega
theorem KU (l:List Int)(i:Nat)(h:i<l.length:=by omega):val (l.drop i)=l.getD i 0+1000000000*val (l.drop (i+1)):=by
 rw[ZBU h];simp only[val];rw[K',V' h];rfl
theorem JT (l:List Int)(i:Nat)(h:i≤l.length:=by omega):val l=val (l.take i)+pw i*val (l.drop i):=by
 conv=>lhs;rw[←List.take_append_drop i l]
 rw[RS,v_,ZA1 h]
def Z9 (a:Nat→Int)(k:Int):Nat→Int
 |0=>0
 |i+1=>(a i*k+Z9 a k i)/1000000000
def Gp (a:Nat→Int)(k:Int)(i:Nat):Int:=(a i*k+Z9 a k i)%1000000000
theorem Ds {a:Nat→Int}{k:Int}(ha:∀i,Qi (a i)) (hk:Qi k):∀i,Qi (Z9 a k i)
 |0=>⟨by simp[Z9],by simp[Z9]⟩
 |i+1=>by
  have h1:=Ds ha hk i;have h2:=Cv (ha i) hk;simp only[Z9];unfold Qi at *;omega
theorem lZ {a:Nat→Int}{k:Int}(ha:∀i,Qi (a i)) (hk:Qi k) (i:Nat):Qi (Gp a k i):=by
 unfold Gp Qi;omega
theorem YR (a:Nat→Int)(k:Int):∀n,sm (Gp a k) n+pw n*Z9 a k n=sm a n*k
 |0=>by simp[sm,Z9]
 |n+1=>by
  have ih:=YR a k n;have e:Gp a k n+1000000000*Z9 a k (n+1)=a n*k+Z9 a k n:=by
   simp only[Gp,Z9];omega
  have e2:pw n*(Gp a k n+1000000000*Z9 a k (n+1))=pw n*(a n*k+Z9 a k n):=by rw[e]
  simp only[sm,pw];grind
def Ku (a:List Int)(b:Int)(i:Nat):Int:=val (a.drop i)%b
def AY (a:List Int)(b:Int)(i:Nat):Int:=(Ku a b (i+1)*1000000000+a.getD i 0)/b
theorem Iv (a:List Int)(b:Int)(i:Nat)(h:i<a.length):Ku a b i=(Ku a b (i+1)*1000000000+a.getD i 0)%b:=by
 unfold Ku;rw[KU a i h];rw[Int.add_comm,Int.mul_comm,Int.add_emod,Int.mul_emod]
 conv=>rhs;rw[Int.add_emod,Int.mul_emod,Int.emod_emod_of_dvd _ (Int.dvd_refl b)]
theorem Nj (a:List Int)(b:Int):Ku a b a.length=0:=by unfold Ku;simp[val]
theorem EY {a:List Int}{b:Int}(ha:JO a)(hb:0<b)(i:Nat):Qi (AY a b i):=by
 have h1:=ZBr (val (a.drop (i+1))) (show b≠0 by omega);have h2:=ZBO (val (a.drop (i+1))) hb;have h3:=JW ha i;unfold Qi at *;unfold AY Ku;refine⟨ZEH (by omega) (by omega),Int.ediv_lt_of_lt_mul hb ?_⟩;omega
theorem ar {a:List Int}{b:Int}(hb:0<b):∀i,i≤a.length→val (a.drop (a.length-i))=b*val ((BH (AY a b) a.length).drop (a.length-i))+Ku a b (a.length-i)
 |0,_=>by
  have e:(BH (AY a b) a.length).drop a.length=[]:=by rw[ZDw,Qq];exact N' _
  simp[e,Nj,val]
 |i+1,h=>by
  have ih:=ar (a:=a) hb i (by omega);obtain⟨k,hk⟩:∃k,a.length-(i+1)=k:=⟨_,rfl⟩
  have hk1:a.length-i=k+1:=by omega
  rw[hk1]at ih;rw[hk];rw[KU a k,KU (BH (AY a b) a.length) k (by rw[Qq];omega),Da _ _ _ (show k<a.length by omega)];have e:=Int.mul_ediv_add_emod (Ku a b (k+1)*1000000000+a.getD k 0) b;have e2:=Iv a b k (by omega);have e3:AY a b k=(Ku a b (k+1)*1000000000+a.getD k 0)/b:=rfl;rw[←e3,←e2]at e;grind
theorem Rz {a:List Int}{b:Int}(hb:0<b):val a=b*val (BH (AY a b) a.length)+Ku a b 0:=by
 have:=ar (a:=a) hb a.length (N' _)
 simpa using this
def zA (z:Int):AV:=.agg [.bool (decide (z<0)),X9 (Xa z.natAbs)]
theorem XS (z:Int):A_ (zA z):=XE (by simp[Xd,X5])
theorem tS:(!(true == false))=true:=Go.Ab.C_ rfl
theorem tR:(!(false == true))=true:=Go.Ab.C_ rfl
theorem tT:(!(true == true))=false:=Go.Ab.C_ rfl
theorem tQ:(!(false == false))=false:=Go.Ab.C_ rfl
set_option linter.defProp false in
def wN:=Q' tS (Q' tR (Q' tT tQ))
def Zg (neg:Bool)(v:Int):Int:=if neg=true then -v else v
theorem TAA {n:Nat}:(Xa n).length=0↔n=0:=by rw[ZBe,R9]
theorem tU {l:List Int}(h:JO l)(neg:Bool):zA (Zg neg (val l))=.agg [.bool (neg && decide (B9 l l.length≠0)),X9 (l.take (B9 l l.length))]:=by
 have h0:=Qc h;have e1:(Zg neg (val l)).natAbs=(val l).toNat:=by unfold Zg;split <;> omega
 have e2:=go h;have hle:=aS l l.length;have e3:B9 l l.length=0↔val l=0:=by
  have h1:(l.take (B9 l l.length)).length=B9 l l.length:=by rw[v_,ZA1 hle]
  rw[←h1,e2,TAA];omega
 unfold zA;rw[e1,e2];congr 3;unfold Zg;have h0':¬val l<0:=by omega
 cases neg
 ·simp[h0']
 ·have:-val l<0↔¬B9 l l.length=0:=by rw[e3];omega
  simp only[if_true,ZBt,decide_eq_decide];exact this
theorem GV {d:Nat}(h0:d≠0:=by omega)(h:d<1000000000:=by omega):Xa d=[(d:Int)]:=by
 rw[BK h0,show d/1000000000=0 by omega,Qu,show d%1000000000=d by omega]
theorem SL {d:Nat}(h0:1000000000≤d)(h:d<1000000000000000000):Xa d=[((d%1000000000:Nat):Int),((d/1000000000:Nat):Int)]:=by
 rw[BK (by omega),GV]
theorem Vz {d:Nat}(h0:1000000000000000000≤d)(h:d<18446744073709551616) :
  Xa d=[((d%1000000000:Nat):Int),((d/1000000000%1000000000:Nat):Int),((d/1000000000/1000000000:Nat):Int)]:=by
 rw[BK (by omega),SL (by omega) (by omega)]
def dg (l:List Int):Nat→Int:=fun i=>l.getD i 0
theorem Qo {l:List Int}(h:JO l)(i:Nat):Qi (dg l i):=JW h i
theorem Ib {l:List Int}{i:Nat}(h:l.length≤i:=by omega):dg l i=0:=by unfold dg;rw[K',k_ h];rfl
theorem Fh (l:List Int)(n:Nat)(h:l.length≤n):sm (dg l) n=val l:=xg l n h
def AF (a b:List Int)(n:Nat):List Int:=BH (Be (dg a) (dg b)) n ++ [Qt (dg a) (dg b) n]
theorem P0 (a b:List Int)(n:Nat)(ha:a.length≤n)(hb:b.length≤n):val (AF a b n)=val a+val b:=by
 unfold AF;rw[Fl,Qq,HX,PI,Fh a n ha,Fh b n hb]
theorem OZ {a b:List Int}(ha:JO a)(hb:JO b)(n:Nat):JO (AF a b n):=by
 unfold AF;refine LA.2 ⟨DW fun i _=>Sg (Qo ha i) (Qo hb i),ZD.2 ⟨?_,CP⟩⟩;have:=ED (dg a) (dg b) n;unfold Qi;omega
theorem FG (a b:List Int)(n:Nat):(AF a b n).length=n+1:=by simp[AF,Qq]
def Ae (a b:List Int):List Int:=BH (C5 (dg a) (dg b)) a.length
theorem CA {a b:List Int}(ha:JO a)(hb:JO b)(hl:b.length≤a.length)(h:val b≤val a):val (Ae a b)=val a-val b:=by
 unfold Ae;have e:=aM (n:=a.length) (fun i _=>Qo ha i) (fun i _=>Qo hb i) (by rw[Fh b _ hl,Fh a _ (N' _)];exact h);have e2:=RL (dg a) (dg b) a.length;rw[e,Fh a _ (N' _),Fh b _ hl]at e2;rw[HX];omega
theorem Cz {a b:List Int}(ha:JO a)(hb:JO b):JO (Ae a b):=DW fun i _=>Ur (Qo ha i) (Qo hb i)
def Jx (a b:List Int)(i:Nat):List Int:=BH (fun j=>if j<i then C5 (dg a) (dg b) j else if j=i then dg a j-Kl (dg a) (dg b) i else dg a j) a.length
theorem nq (l:List Int):BH (dg l) l.length=l:=by
 refine ZBf (by simp[BH]) fun i h1 h2=>?_
 simp[BH,dg,K',h2]
theorem Tn (a b:List Int):Jx a b 0=a:=by
 unfold Jx
 conv=>rhs;rw[←nq a]
 refine Zs fun k _=>?_
 rw[M_ (by omega)]
 split
 ·simp[Kl]
 ·rfl
theorem W4 (a b:List Int):Jx a b a.length=Ae a b:=Zs fun k hk=>by rw[N_ hk]
theorem BV (f:Nat→Int)(n k:Nat)(x:Int)(h:k<n:=by omega):(BH f n).set k x=BH (fun q=>if q=k then x else f q) n:=by
 refine ZBf (by simp[BH]) fun q h1 h2=>?_
 have hq:q<n:=by simpa [Qq]using h2
 by_cases e:k=q
 ·subst e;simp[BH]
 ·simp[BH,List.getElem_set,e,w_ e]
end
end Go.Ab.N
namespace Go.Ab.N
open Go Go.Ab
open Classical
noncomputable section
theorem JR {l m:List AV}(h:TAF l m):B' (.agg l) (.agg m):=fun c v hv=>by
 cases hv with
 |agg vs _ hs hr =>
  have:=(nV h) c (.tuple vs) (.tup vs _ hs hr);cases this with
  |tup _ _ hs' hr'=>exact .agg vs m hs' hr'
theorem QI (f:Nat→AV)(t:Bool):B' (.sl 0 0 f t) (X9 []):=QC rfl (N' _) fun j hj=>by exact absurd hj (ZAL j)
theorem Cr {n:Nat}{L:List AV}{l:List Int}{t:Bool}(hn:n=l.length)(h:L=l.map I):B' (.sl n n (Xf L) t) (X9 l):=by
 subst hn;subst h;exact nT l t
theorem I9 (L:List AV):∀n off,off+n=L.length→QL (Xf L) off 0 n=L.drop off:=by
 have key:∀n off j,off+j+n=L.length→QL (Xf L) off j n=L.drop (off+j):=by
  intro n
  induction n with
  |zero=>intro off j h;rw[ZDw.2 (by omega)];rfl
  |succ n ih =>
   intro off j h;rw[ZBU (by omega)];simp only[QL];rw[ih off (j+1) (by omega)];congr 1;show L.getD (off+j) .any=_;rw[K',V' (by omega)];rfl
 intro n off h;rw[key n off 0 (by omega)];rfl
theorem Kc {P:Program}{fn:Func}{str hcs:List Nat}{r:AV}{s:AS}{t u id ver n:Nat}{L:List AV}(hr:fn.results=#[.cell t u])(hk:Cy P u=some (some n)) (hs:s.get t=.ref id ver 0)
  (ho:s.h[id]?=some (.row ver n (Xf L))) (hn:L.length=n) (h:ZA s.h (.agg L) r):TAC (JK P fn str hcs r) s:=by
 subst hn;refine HB (v:=.agg L) hr ?_ h;rw[hs,BA,hk,Kz,ho,KA,fF,I9 L _ _ (by omega)];simp[Qf]
theorem Ql {P:Program}{fn:Func}{str hcs:List Nat}{r:AV}{s:AS}{t u id ver n:Nat}{L M:List AV}(hr:fn.results=#[.cell t u])(hk:Cy P u=some (some n)) (hs:s.get t=.ref id ver 0)
  (ho:s.h[id]?=some (.row ver n (Xf L))) (hn:L.length=n) (e:r=.agg M) (TAM:A_ r) (h:TAF L M):TAC (JK P fn str hcs r) s:=by
 refine Kc hr hk hs ho hn ?_;subst e;exact Xp TAM (JR h)
end
end Go.Ab.N
namespace Go.Ab.N
open Go Go.RowKit Go.Proofs
theorem yN:Cy Tryz.prog 3=some none:=by kernel_rfl
theorem xp:Zn Tryz.prog 3=some 1:=by kernel_rfl
theorem VT:VS Tryz.prog 3=some .i64:=by kernel_rfl
theorem xE:Qh Tryz.prog 3=some [.int .i64 0]:=by kernel_rfl
theorem zJ:Cy Tryz.prog 4=some none:=by kernel_rfl
theorem xq:Zn Tryz.prog 4=some 1:=by kernel_rfl
theorem vn:Mk Tryz.prog 4=true:=by kernel_rfl
theorem xF:Qh Tryz.prog 4=some [.bool false]:=by kernel_rfl
theorem yK:Cy Tryz.prog 22=some none:=by kernel_rfl
theorem sn:Zn Tryz.prog 22=some 1:=by kernel_rfl
theorem yu:AL Tryz.prog 22=some (3,1,8):=by kernel_rfl
theorem yM:Cy Tryz.prog 23=some none:=by kernel_rfl
theorem yv:AL Tryz.prog 23=some (30,8,128):=by kernel_rfl
theorem Q5:Cy Tryz.prog 26=some (some 2):=by kernel_rfl
theorem so:Zn Tryz.prog 26=some 2:=by kernel_rfl
theorem qo:C9 Tryz.prog 26 0=some (0,1,none):=by kernel_rfl
theorem pj:QK Tryz.prog 26 0=some (0,1):=by kernel_rfl
theorem qp:C9 Tryz.prog 26 1=some (1,1,none):=by kernel_rfl
theorem pk:QK Tryz.prog 26 1=some (1,1):=by kernel_rfl
theorem yc:AC Tryz.prog 26=true:=by kernel_rfl
theorem sY:Qh Tryz.prog 26=some [.bool false,.sl 0 0 (fun _=>.any) true]:=by kernel_rfl
theorem XT:Cy Tryz.prog 28=some (some 4):=by kernel_rfl
theorem RM:Zn Tryz.prog 28=some 4:=by kernel_rfl
theorem qr:C9 Tryz.prog 28 0=some (0,2,some 2):=by kernel_rfl
theorem pm:QK Tryz.prog 28 0=some (0,2):=by kernel_rfl
theorem qs:C9 Tryz.prog 28 1=some (2,2,some 2):=by kernel_rfl
theorem po:QK Tryz.prog 28 1=some (2,2):=by kernel_rfl
theorem yd:AC Tryz.prog 28=true:=by kernel_rfl
theorem En:Qh Tryz.prog 28=some [.bool false,.sl 0 0 (fun _=>.any) true,.bool false,.sl 0 0 (fun _=>.any) true]:=by kernel_rfl
theorem Jn:Cy Tryz.prog 30=some (some 8):=by kernel_rfl
theorem Em:Zn Tryz.prog 30=some 8:=by kernel_rfl
theorem qt:C9 Tryz.prog 30 0=some (0,4,some 4):=by kernel_rfl
theorem pq:QK Tryz.prog 30 0=some (0,4):=by kernel_rfl
theorem qu:C9 Tryz.prog 30 1=some (4,4,some 4):=by kernel_rfl
theorem pr:QK Tryz.prog 30 1=some (4,4):=by kernel_rfl
theorem ye:AC Tryz.prog 30=true:=by kernel_rfl
theorem sZ:Qh Tryz.prog 30=some [.bool false,.sl 0 0 (fun _=>.any) true,.bool false,.sl 0 0 (fun _=>.any) true,.bool false,.sl 0 0 (fun _=>.any) true,.bool false,.sl 0 0 (fun _=>.any) true]:=by kernel_rfl
theorem BN:Cy Tryz.prog 32=some (some 32):=by kernel_rfl
theorem RN:Zn Tryz.prog 32=some 32:=by kernel_rfl
theorem qv:C9 Tryz.prog 32 0=some (0,8,some 8):=by kernel_rfl
theorem pt:QK Tryz.prog 32 0=some (0,8):=by kernel_rfl
theorem qw:C9 Tryz.prog 32 1=some (8,8,some 8):=by kernel_rfl
theorem pu:QK Tryz.prog 32 1=some (8,8):=by kernel_rfl
theorem qx:C9 Tryz.prog 32 2=some (16,8,some 8):=by kernel_rfl
theorem pv:QK Tryz.prog 32 2=some (16,8):=by kernel_rfl
theorem qy:C9 Tryz.prog 32 3=some (24,4,some 4):=by kernel_rfl
theorem py:QK Tryz.prog 32 3=some (24,4):=by kernel_rfl
theorem qz:C9 Tryz.prog 32 4=some (28,4,some 4):=by kernel_rfl
theorem pz:QK Tryz.prog 32 4=some (28,4):=by kernel_rfl
theorem yf:AC Tryz.prog 32=true:=by kernel_rfl
theorem t8:Qh Tryz.prog 32=some [.bool false,.sl 0 0 (fun _=>.any) true,.bool false,.sl 0 0 (fun _=>.any) true,.bool false,.sl 0 0 (fun _=>.any) true,.bool false,.sl 0 0 (fun _=>.any) true,.bool false,.sl 0 0 (fun _=>.any) true,.bool false,.sl 0 0 (fun _=>.any) true,.bool false,.sl 0 0 (fun _=>.any) true,.bool false,.sl 0 0 (fun _=>.any) true,.bool false,.sl 0 0 (fun _=>.any) true,.bool false,.sl 0 0 (fun _=>.any) true,.bool false,.sl 0 0 (fun _=>.any) true,.bool false,.sl 0 0 (fun _=>.any) true,.bool false,.sl 0 0 (fun _=>.any) true,.bool false,.sl 0 0 (fun _=>.any) true,.bool false,.sl 0 0 (fun _=>.any) true,.bool false,.sl 0 0 (fun _=>.any) true]:=by kernel_rfl
theorem yw:AL Tryz.prog 35=some (32,32,512):=by kernel_rfl
theorem YN:Cy Tryz.prog 43=some (some 20):=by kernel_rfl
theorem ss:Zn Tryz.prog 43=some 20:=by kernel_rfl
theorem qB:C9 Tryz.prog 43 0=some (0,8,some 8):=by kernel_rfl
theorem pA:QK Tryz.prog 43 0=some (0,8):=by kernel_rfl
theorem qD:C9 Tryz.prog 43 1=some (8,4,some 4):=by kernel_rfl
theorem pB:QK Tryz.prog 43 1=some (8,4):=by kernel_rfl
theorem qE:C9 Tryz.prog 43 2=some (12,4,some 4):=by kernel_rfl
theorem pC:QK Tryz.prog 43 2=some (12,4):=by kernel_rfl
theorem qF:C9 Tryz.prog 43 3=some (16,4,some 4):=by kernel_rfl
theorem pD:QK Tryz.prog 43 3=some (16,4):=by kernel_rfl
theorem yg:AC Tryz.prog 43=true:=by kernel_rfl
theorem ta:Qh Tryz.prog 43=some [.bool false,.sl 0 0 (fun _=>.any) true,.bool false,.sl 0 0 (fun _=>.any) true,.bool false,.sl 0 0 (fun _=>.any) true,.bool false,.sl 0 0 (fun _=>.any) true,.bool false,.sl 0 0 (fun _=>.any) true,.bool false,.sl 0 0 (fun _=>.any) true,.bool false,.sl 0 0 (fun _=>.any) true,.bool false,.sl 0 0 (fun _=>.any) true,.bool false,.sl 0 0 (fun _=>.any) true,.bool false,.sl 0 0 (fun _=>.any) true]:=by kernel_rfl
theorem yy:AL Tryz.prog 48=some (43,20,320):=by kernel_rfl
theorem yO:Cy Tryz.prog 49=some none:=by kernel_rfl
theorem yz:AL Tryz.prog 49=some (56,8,128):=by kernel_rfl
theorem td:Qh Tryz.prog 49=some [.sl 0 0 (fun _=>.any) true]:=by kernel_rfl
theorem yP:Cy Tryz.prog 56=some (some 8):=by kernel_rfl
theorem qG:C9 Tryz.prog 56 0=some (0,4,some 4):=by kernel_rfl
theorem pE:QK Tryz.prog 56 0=some (0,4):=by kernel_rfl
theorem qH:C9 Tryz.prog 56 1=some (4,4,some 4):=by kernel_rfl
theorem pF:QK Tryz.prog 56 1=some (4,4):=by kernel_rfl
theorem yh:AC Tryz.prog 56=true:=by kernel_rfl
theorem te:Qh Tryz.prog 56=some [.bool false,.sl 0 0 (fun _=>.any) true,.bool false,.sl 0 0 (fun _=>.any) true,.bool false,.sl 0 0 (fun _=>.any) true,.bool false,.sl 0 0 (fun _=>.any) true]:=by kernel_rfl
theorem yA:AL Tryz.prog 60=some (49,1,24):=by kernel_rfl
theorem tJ:Cy Tryz.prog 85=some none:=by kernel_rfl
theorem su:Zn Tryz.prog 85=some 1:=by kernel_rfl
theorem jP:AL Tryz.prog 85=some (131,5,88):=by kernel_rfl
theorem tK:Cy Tryz.prog 86=some none:=by kernel_rfl
theorem sw:Zn Tryz.prog 86=some 1:=by kernel_rfl
theorem mY:IA Tryz.prog 86=true:=by kernel_rfl
theorem G1:AL Tryz.prog 86=some (28,4,64):=by kernel_rfl
theorem tf:Qh Tryz.prog 86=some [.sl 0 0 (fun _=>.any) true]:=by kernel_rfl
theorem lu:Cy Tryz.prog 88=some (some 3):=by kernel_rfl
theorem sD:Zn Tryz.prog 88=some 3:=by kernel_rfl
theorem qI:C9 Tryz.prog 88 0=some (0,1,none):=by kernel_rfl
theorem pG:QK Tryz.prog 88 0=some (0,1):=by kernel_rfl
theorem qJ:C9 Tryz.prog 88 1=some (1,1,none):=by kernel_rfl
theorem qK:C9 Tryz.prog 88 2=some (2,1,none):=by kernel_rfl
theorem pH:QK Tryz.prog 88 2=some (2,1):=by kernel_rfl
theorem yi:AC Tryz.prog 88=true:=by kernel_rfl
theorem tg:Qh Tryz.prog 88=some [.int .i64 0,.sl 0 0 (fun _=>.any) true,.sl 0 0 (fun _=>.any) true]:=by kernel_rfl
theorem lz:Cy Tryz.prog 91=some (some 7):=by kernel_rfl
theorem sE:Zn Tryz.prog 91=some 7:=by kernel_rfl
theorem qL:C9 Tryz.prog 91 0=some (0,1,none):=by kernel_rfl
theorem pJ:QK Tryz.prog 91 0=some (0,1):=by kernel_rfl
theorem qM:C9 Tryz.prog 91 1=some (1,1,none):=by kernel_rfl
theorem pK:QK Tryz.prog 91 1=some (1,1):=by kernel_rfl
theorem pL:QK Tryz.prog 91 2=some (2,1):=by kernel_rfl
theorem qN:C9 Tryz.prog 91 3=some (3,4,some 4):=by kernel_rfl
theorem pM:QK Tryz.prog 91 3=some (3,4):=by kernel_rfl
theorem yj:AC Tryz.prog 91=true:=by kernel_rfl
theorem th:Qh Tryz.prog 91=some [.int .i64 0,.sl 0 0 (fun _=>.any) true,.sl 0 0 (fun _=>.any) true,.bool false,.sl 0 0 (fun _=>.any) true,.bool false,.sl 0 0 (fun _=>.any) true]:=by kernel_rfl
theorem Hb:Cy Tryz.prog 99=some (some 8):=by kernel_rfl
theorem sF:Zn Tryz.prog 99=some 8:=by kernel_rfl
theorem qO:C9 Tryz.prog 99 0=some (0,4,some 4):=by kernel_rfl
theorem pN:QK Tryz.prog 99 0=some (0,4):=by kernel_rfl
theorem qP:C9 Tryz.prog 99 1=some (4,4,some 4):=by kernel_rfl
theorem pO:QK Tryz.prog 99 1=some (4,4):=by kernel_rfl
theorem yk:AC Tryz.prog 99=true:=by kernel_rfl
theorem ti:Qh Tryz.prog 99=some [.bool false,.sl 0 0 (fun _=>.any) true,.bool false,.sl 0 0 (fun _=>.any) true,.bool false,.sl 0 0 (fun _=>.any) true,.bool false,.sl 0 0 (fun _=>.any) true]:=by kernel_rfl
theorem ll:Cy Tryz.prog 101=some (some 16):=by kernel_rfl
theorem nt:Zn Tryz.prog 101=some 16:=by kernel_rfl
theorem kq:C9 Tryz.prog 101 0=some (0,8,some 8):=by kernel_rfl
theorem jf:QK Tryz.prog 101 0=some (0,8):=by kernel_rfl
theorem ku:C9 Tryz.prog 101 1=some (8,8,some 8):=by kernel_rfl
theorem jg:QK Tryz.prog 101 1=some (8,8):=by kernel_rfl
theorem v7:AC Tryz.prog 101=true:=by kernel_rfl
theorem oa:Qh Tryz.prog 101=some [.bool false,.sl 0 0 (fun _=>.any) true,.bool false,.sl 0 0 (fun _=>.any) true,.bool false,.sl 0 0 (fun _=>.any) true,.bool false,.sl 0 0 (fun _=>.any) true,.bool false,.sl 0 0 (fun _=>.any) true,.bool false,.sl 0 0 (fun _=>.any) true,.bool false,.sl 0 0 (fun _=>.any) true,.bool false,.sl 0 0 (fun _=>.any) true]:=by kernel_rfl
theorem vH:AL Tryz.prog 105=some (108,24,384):=by kernel_rfl
theorem wo:Cy Tryz.prog 108=some (some 24):=by kernel_rfl
theorem nu:Zn Tryz.prog 108=some 24:=by kernel_rfl
theorem kv:C9 Tryz.prog 108 0=some (0,8,some 8):=by kernel_rfl
theorem jh:QK Tryz.prog 108 0=some (0,8):=by kernel_rfl
theorem kw:C9 Tryz.prog 108 1=some (8,8,some 8):=by kernel_rfl
theorem ji:QK Tryz.prog 108 1=some (8,8):=by kernel_rfl
theorem ky:C9 Tryz.prog 108 2=some (16,8,some 8):=by kernel_rfl
theorem jj:QK Tryz.prog 108 2=some (16,8):=by kernel_rfl
theorem v8:AC Tryz.prog 108=true:=by kernel_rfl
theorem oc:Qh Tryz.prog 108=some [.bool false,.sl 0 0 (fun _=>.any) true,.bool false,.sl 0 0 (fun _=>.any) true,.bool false,.sl 0 0 (fun _=>.any) true,.bool false,.sl 0 0 (fun _=>.any) true,.bool false,.sl 0 0 (fun _=>.any) true,.bool false,.sl 0 0 (fun _=>.any) true,.bool false,.sl 0 0 (fun _=>.any) true,.bool false,.sl 0 0 (fun _=>.any) true,.bool false,.sl 0 0 (fun _=>.any) true,.bool false,.sl 0 0 (fun _=>.any) true,.bool false,.sl 0 0 (fun _=>.any) true,.bool false,.sl 0 0 (fun _=>.any) true]:=by kernel_rfl
theorem lm:Cy Tryz.prog 131=some (some 5):=by kernel_rfl
theorem nv:Zn Tryz.prog 131=some 5:=by kernel_rfl
theorem kz:C9 Tryz.prog 131 0=some (0,1,none):=by kernel_rfl
theorem SA:QK Tryz.prog 131 0=some (0,1):=by kernel_rfl
theorem kA:C9 Tryz.prog 131 1=some (1,4,some 4):=by kernel_rfl
theorem SB:QK Tryz.prog 131 1=some (1,4):=by kernel_rfl
theorem je:AC Tryz.prog 131=true:=by kernel_rfl
theorem NJ:Qh Tryz.prog 131=some [.sl 0 0 (fun _=>.any) true,.bool false,.sl 0 0 (fun _=>.any) true,.bool false,.sl 0 0 (fun _=>.any) true]:=by kernel_rfl
theorem wq:Cy Tryz.prog 142=some none:=by kernel_rfl
theorem nw:Zn Tryz.prog 142=some 1:=by kernel_rfl
theorem vI:AL Tryz.prog 142=some (86,1,24):=by kernel_rfl
theorem ls:Cy Tryz.prog 145=some none:=by kernel_rfl
theorem nz:Zn Tryz.prog 145=some 1:=by kernel_rfl
theorem od:Qh Tryz.prog 145=some [.nil]:=by kernel_rfl
theorem kB:C9 Tryz.prog 148 0=some (0,1,none):=by kernel_rfl
theorem jk:QK Tryz.prog 148 0=some (0,1):=by kernel_rfl
theorem kC:C9 Tryz.prog 148 1=some (1,1,none):=by kernel_rfl
theorem jl:QK Tryz.prog 148 1=some (1,1):=by kernel_rfl
theorem kD:C9 Tryz.prog 148 2=some (2,1,none):=by kernel_rfl
theorem jm:QK Tryz.prog 148 2=some (2,1):=by kernel_rfl
theorem kE:C9 Tryz.prog 148 3=some (3,1,none):=by kernel_rfl
theorem kF:C9 Tryz.prog 148 4=some (4,1,none):=by kernel_rfl
theorem kG:C9 Tryz.prog 148 5=some (5,1,none):=by kernel_rfl
theorem vd:AC Tryz.prog 148=true:=by kernel_rfl
theorem oe:Qh Tryz.prog 148=some [.int .i64 0,.int .i64 0,.int .i64 0,.sl 0 0 (fun _=>.any) true,.sl 0 0 (fun _=>.any) true,.sl 0 0 (fun _=>.any) true]:=by kernel_rfl
theorem vJ:AL Tryz.prog 155=none:=by kernel_rfl
theorem jn:QK Tryz.prog 155 0=some (0,1):=by kernel_rfl
theorem jo:QK Tryz.prog 155 1=some (1,1):=by kernel_rfl
theorem ve:AC Tryz.prog 155=true:=by kernel_rfl
theorem uT:gD Tryz.prog 155=some (2,1,none):=by kernel_rfl
theorem og:Qh Tryz.prog 155=some [.int .i64 0,.int .i64 0]:=by kernel_rfl
theorem vK:AL Tryz.prog 156=some (155,2,16):=by kernel_rfl
theorem ws:Cy Tryz.prog 172=some none:=by kernel_rfl
theorem nA:Zn Tryz.prog 172=some 1:=by kernel_rfl
theorem oh:Qh Tryz.prog 172=some [.TBe]:=by kernel_rfl
theorem kH:C9 Tryz.prog 178 0=some (0,1,none):=by kernel_rfl
theorem kI:C9 Tryz.prog 178 1=some (1,1,none):=by kernel_rfl
theorem kJ:C9 Tryz.prog 178 2=some (2,1,none):=by kernel_rfl
theorem vg:AC Tryz.prog 178=true:=by kernel_rfl
theorem ol:Qh Tryz.prog 178=some [.sl 0 0 (fun _=>.any) true,.sl 0 0 (fun _=>.any) true,.sl 0 0 (fun _=>.any) true]:=by kernel_rfl
theorem wc:VS Tryz.prog 185=some .u64:=by kernel_rfl
theorem wt:Cy Tryz.prog 198=some (some 3):=by kernel_rfl
theorem nC:Zn Tryz.prog 198=some 3:=by kernel_rfl
theorem vM:AL Tryz.prog 198=none:=by kernel_rfl
theorem jp:QK Tryz.prog 198 0=some (0,1):=by kernel_rfl
theorem jq:QK Tryz.prog 198 1=some (1,1):=by kernel_rfl
theorem jr:QK Tryz.prog 198 2=some (2,1):=by kernel_rfl
theorem vk:AC Tryz.prog 198=true:=by kernel_rfl
theorem uU:gD Tryz.prog 198=some (3,1,none):=by kernel_rfl
theorem oo:Qh Tryz.prog 198=some [.int .i64 0,.int .i64 0,.int .i64 0]:=by kernel_rfl
theorem vN:AL Tryz.prog 199=some (198,3,24):=by kernel_rfl
theorem wd:VS Tryz.prog 214=some .u64:=by kernel_rfl
theorem mixed:Tryz.prog.follows .mixedOrders=true:=by kernel_rfl
theorem Fq {f:FuncId}{fn:Func}{body:Code}{args:List AV}{r:AV}(he:Cs Tryz.prog f)(hf:Tryz.prog.funcs[f]?=some fn)(n0:Nat)(hid str hcs:List Nat)(hs:∀ a∈args,A_ a)(h:Run (JK Tryz.prog fn str hcs r) [.code body] (O_ n0 hid args [])) (hb:fn.body=some body:=by rfl) (hok:QO fn.ntmps str hcs body=true:=by kernel_rfl) (hlen:args.length≤fn.ntmps:=by exact K_ rfl):Fn Tryz.prog f args r:=q_ he hf hb mixed n0 hid str hcs hok hlen hs h
set_option linter.defProp false in
def RT:=Q' @yN <| Q' @xp <| Q' @VT <| Q' @xE <| Q' @zJ <| Q' @xq <| Q' @vn <| Q' @xF <| Q' @yK <| Q' @sn <| Q' @yu <| Q' @yM <| Q' @yv <| Q' @Q5 <| Q' @so <| Q' @qo <| Q' @pj <| Q' @qp <| Q' @pk <| Q' @yc <| Q' @sY <| Q' @XT <| Q' @RM <| Q' @qr <| Q' @pm <| Q' @qs <| Q' @po <| Q' @yd <| Q' @En <| Q' @Jn <| Q' @Em <| Q' @qt <| Q' @pq <| Q' @qu <| Q' @pr <| Q' @ye <| Q' @sZ <| Q' @BN <| Q' @RN <| Q' @qv <| Q' @pt <| Q' @qw <| Q' @pu <| Q' @qx <| Q' @pv <| Q' @qy <| Q' @py <| Q' @qz <| Q' @pz <| Q' @yf <| Q' @t8 <| Q' @yw <| Q' @YN <| Q' @ss <| Q' @qB <| Q' @pA <| Q' @qD <| Q' @pB <| Q' @qE <| Q' @pC <| Q' @qF <| Q' @pD <| Q' @yg <| Q' @ta <| Q' @yy <| Q' @yO <| Q' @yz <| Q' @td <| Q' @yP <| Q' @qG <| Q' @pE <| Q' @qH <| Q' @pF <| Q' @yh <| Q' @te <| Q' @yA <| Q' @tJ <| Q' @su <| Q' @jP <| Q' @tK <| Q' @sw <| Q' @mY <| Q' @G1 <| Q' @tf <| Q' @lu <| Q' @sD <| Q' @qI <| Q' @pG <| Q' @qJ <| Q' @qK <| Q' @pH <| Q' @yi <| Q' @tg <| Q' @lz <| Q' @sE <| Q' @qL <| Q' @pJ <| Q' @qM <| Q' @pK <| Q' @pL <| Q' @qN <| Q' @pM <| Q' @yj <| Q' @th <| Q' @Hb <| Q' @sF <| Q' @qO <| Q' @pN <| Q' @qP <| Q' @pO <| Q' @yk <| Q' @ti <| Q' @ll <| Q' @nt <| Q' @kq <| Q' @jf <| Q' @ku <| Q' @jg <| Q' @v7 <| Q' @oa <| Q' @vH <| Q' @wo <| Q' @nu <| Q' @kv <| Q' @jh <| Q' @kw <| Q' @ji <| Q' @ky <| Q' @jj <| Q' @v8 <| Q' @oc <| Q' @lm <| Q' @nv <| Q' @kz <| Q' @SA <| Q' @kA <| Q' @SB <| Q' @je <| Q' @NJ <| Q' @wq <| Q' @nw <| Q' @vI <| Q' @ls <| Q' @nz <| Q' @od <| Q' @kB <| Q' @jk <| Q' @kC <| Q' @jl <| Q' @kD <| Q' @jm <| Q' @kE <| Q' @kF <| Q' @kG <| Q' @vd <| Q' @oe <| Q' @vJ <| Q' @jn <| Q' @jo <| Q' @ve <| Q' @uT <| Q' @og <| Q' @vK <| Q' @ws <| Q' @nA <| Q' @oh <| Q' @kH <| Q' @kI <| Q' @kJ <| Q' @vg <| Q' @ol <| Q' @wc <| Q' @wt <| Q' @nC <| Q' @vM <| Q' @jp <| Q' @jq <| Q' @jr <| Q' @vk <| Q' @uU <| Q' @oo <| Q' @vN <| @wd
set_option linter.defProp false in
def wA:=Q' @zk <| Q' @zj <| Q' @zi <| Q' @beq_self_eq_true.{0} <| Q' @ite_true.{1} <| Q' @ite_false.{1} <| Q' @false_implies <| Q' @true_implies <| Q' @implies_true.{1} <| Q' @implies_true.{0} <| Q' @eq_self.{1} <| Q' @ne_eq.{1} <| @RT
theorem Xk {X:Env}{k:List Item}{s:AS}(h:J1 (D7 s) fun s=>vc X 1000 k s):Run X k s:=XI 1000 h
theorem ZZ {m:Nat}{s s':AS}(h3:Xo s.sl s'.sl)(h5:s.h=s'.h)(h1:s'.n0=s.n0:=by rfl)(h4:Xx s.tm s'.tm:=by simp[Xx]):Sub m s s':=Xh h1 h3 h4 h5
theorem rM {b m:Nat}{s s':AS}(h3:Xo s.sl s'.sl)(h5:s.h.take m=s'.h)(h6:∀ a∈s'.sl,Jl m a)(h8:∀ o∈s'.h,Q0 m o)(h7:∀ p∈s'.tm,Jl m p.2:=by simp [XP])(h4:Xx s.tm s'.tm:=by simp [Xx])(h1:s'.n0=s.n0:=by rfl)(hbm:b≤m:=by exact p_ _):Sub b s s':=XG hbm h1 h3 h4 h5 h6 h7 h8
end Go.Ab.N
namespace Go.Ab.N
open Go Go.RowKit Go.Proofs
noncomputable section
set_option maxRecDepth 10000
set_option maxHeartbeats 2000000
open Classical
def ma (neg:Bool)(l:List Int):AV:=.agg [.bool (neg && decide (B9 l l.length≠0)),X9 (l.take (B9 l l.length))]
theorem Z3 (neg:Bool)(l:List Int):A_ (ma neg l):=XE (by simp[Xd,X5])
theorem yU (neg:Bool)(d:List Int)(hl:d.length<4611686018427387904):Fn Tryz.prog 182 [.bool neg,X9 d] (ma neg d):=by
 refine Fq Tryz.call182 Tryz.func182 6 [] [] [] (by simp[Xd,X8,Z0,Kb,X5,Z2,XS,Z3,Jv]) (Xk ?_);simp(maxSteps:=999999)only[O_,↓X6,wA,seval,zA,wN];refine Xj (fun n:Nat=>⟨6,[],[.bool neg,X9 d,.any,.any,.ref 0 0 0,I n],[],[.row 0 2 (Xf [.bool false,.sl 0 0 (fun _=>.any) true])]⟩) (fun n=>n≤d.length∧B9 d d.length=B9 d n) (fun n=>n) d.length ⟨by omega,rfl⟩
  (ZZ (by simp[zA,wN,Xo,X9,Dq,CN,QG,I]) rfl) ?_
 rintro n ⟨hn,ht⟩ next
 cases n with
 |zero =>
  refine Xk ?_;simp only[ZAM,↓X6,wA,seval,zA,wN];refine HB (v:=.agg [.bool false,.sl 0 0 (fun _=>.any) false]) rfl (by simp[AS.get,Qy,Q5,rd,QL,Xf,EW]) ?_;have e:ma neg d=.agg [.bool false,X9 []]:=by unfold ma;rw[ht];simp[B9]
  rw[e];exact Dz ⟨XY (X5 _) rfl,Xp (Xd _) (QI _ _),trivial⟩
 |succ n =>
  have e0:(0<((n+1:Nat):Int))=True:=L' (by omega);have e1:(((n+1:Nat):Int)=0)=False:=R_ (by omega);have w1:Q_.wrap (((n+1:Nat):Int)-1)=(n:Int):=by rw[M'];omega
  have e2:(n<d.length)=True:=L' (by omega);refine Xk ?_;simp only[e0,e1,e2,w1,↓X6,wA,seval,zA,wN];refine⟨fun h0=>next n _ ⟨by omega,by rw[ht];simp only[B9];rw[N_ h0]⟩ (by omega) (ZZ (by simp[zA,wN,Xo,X9,Dq,CN,QG,I]) rfl),fun h0=>⟨by omega,?_⟩⟩;have ht2:B9 d d.length=n+1:=by rw[ht];simp only[B9];rw[M_ h0]
  have e:ma neg d=.agg [.bool neg,X9 (d.take (n+1))]:=by unfold ma;rw[ht2];simp
  have hlen:(d.take (n+1)).length=n+1:=by rw[v_];omega
  rw[e];refine HB (v:=.agg [.bool neg,.sl (n+1) (n+1) (fun j=>.int .i64 (d.getD j 0)) false]) rfl ?_ ?_
  ·have m1:min (n+1) d.length=n+1:=by omega
   simp[AS.get,Qy,Q5,rd,QL,Xf,EW,m1]
  ·refine Dz ⟨XY (X5 _) rfl,Xp (Xd _) (HY _ hlen.symm (by omega) fun j hj=>?_),trivial⟩
   rw[hlen]at hj;rw[Cm d 0 j (n+1) hj];rfl
set_option linter.defProp false in
def KM:=Q' @Xd (Q' @X8 (Q' @Z0 (Q' @Kb (Q' @X5 (Q' @Z2 (Q' @XS (Q' @Z3 @Jv)))))))
theorem o8 (neg:Bool){u:Int}(h:0≤u):zA (Zg neg u)=.agg [.bool (neg && decide (u≠0)),X9 (Xa u.toNat)]:=by
 unfold zA;have e1:(Zg neg u).natAbs=u.toNat:=by unfold Zg;split <;> omega
 rw[e1];congr 3;unfold Zg;have h0':¬u<0:=by omega
 cases neg
 ·simp[h0']
 ·have:-u<0↔¬u=0:=by omega
  simp only[if_true,ZBt,decide_eq_decide,ne_eq];exact this
def U (n:Int):AV:=.int .u64 n
theorem ZQ (neg:Bool)(u:Int)(h0:0≤u:=by omega)(h1:u<18446744073709551616:=by omega):Fn Tryz.prog 181 [.bool neg,.int .u64 u] (zA (Zg neg u)):=by
 obtain⟨R,hR⟩:∃R,R=zA (Zg neg u):=⟨_,rfl⟩
 have eR:=hR.trans (o8 neg h0);have sR:A_ R:=hR▸XS _;have b1:u≠0→(neg && decide (u≠0))=neg:=fun h=>by simp[h]
 have w1:Q_.wrap (u.tmod 1000000000)=u%1000000000:=by rw[M',ZAH h0];omega
 have w2:ZAq.wrap (u.tdiv 1000000000)=u/1000000000:=by rw[ZAi,r_ h0];omega
 have h2:0≤u/1000000000:=by omega
 have w3:Q_.wrap (u/1000000000)=u/1000000000:=by rw[M'];omega
 have w4:Q_.wrap ((u/1000000000).tmod 1000000000)=u/1000000000%1000000000:=by rw[M',ZAH h2];omega
 have w5:ZAq.wrap ((u/1000000000).tdiv 1000000000)=u/1000000000/1000000000:=by rw[ZAi,r_ h2];omega
 have w6:Q_.wrap (u/1000000000/1000000000)=u/1000000000/1000000000:=by rw[M'];omega
 rw[←hR];refine Fq Tryz.call181 Tryz.func181 6 [] [] [] (by simp[KM]) (Xk ?_);simp(maxSteps:=999999)only[O_,↓X6,wA,↓reduceIte,reduceIte,reduceCtorEq,Y1,Y2,Y3,Y4,Y5,Y6,Y7,Y8,Y9,YA,zA,wN];simp only[w1,w2,w3,w4,w5,w6];refine⟨fun a=>?_,fun a0=>⟨fun a1=>?_,fun a1=>⟨fun a2=>⟨by omega,by omega,?_⟩,fun a2=>⟨by omega,by omega,by omega,by omega,by omega,?_⟩⟩⟩⟩
 ·rw[a,show(neg && decide ((0:Int)≠0))=false by simp,show(0:Int).toNat=0 from rfl,Qu]at eR
  exact Ql rfl Q5 rfl rfl rfl eR sR ⟨U_ _,QI _ _,trivial⟩
 ·have w0:Q_.wrap u=u:=by rw[M'];omega
  rw[b1 a0,GV,ZB8 h0]at eR;rw[w0];exact Ql rfl Q5 rfl rfl rfl eR sR ⟨U_ _,Cr rfl rfl,trivial⟩
 ·rw[b1 a0,SL (by omega) (by omega)]at eR
  have e1:((u.toNat%1000000000:Nat):Int)=u%1000000000:=by omega
  have e2:((u.toNat/1000000000:Nat):Int)=u/1000000000:=by omega
  rw[e1,e2]at eR;exact Ql rfl Q5 rfl rfl rfl eR sR ⟨U_ _,Cr rfl rfl,trivial⟩
 ·rw[b1 a0,Vz (by omega) (by omega)]at eR
  have e1:((u.toNat%1000000000:Nat):Int)=u%1000000000:=by omega
  have e2:((u.toNat/1000000000%1000000000:Nat):Int)=u/1000000000%1000000000:=by omega
  have e3:((u.toNat/1000000000/1000000000:Nat):Int)=u/1000000000/1000000000:=by omega
  rw[e1,e2,e3]at eR;exact Ql rfl Q5 rfl rfl rfl eR sR ⟨U_ _,Cr rfl rfl,trivial⟩
theorem Rp (z:Int):Fn Tryz.prog 187 [zA z] (zA (-z)):=by
 have e:(-z).natAbs=z.natAbs:=by omega
 have e0:z.natAbs=0↔z=0:=by omega
 have e1:(Xa z.natAbs).length=0↔z=0:=TAA.trans e0;refine Fq Tryz.call187 Tryz.func187 3 [] [] [] (by simp[KM]) (Xk ?_);simp(maxSteps:=999999)only[O_,↓X6,wA,↓reduceIte,reduceIte,reduceCtorEq,Y1,Y2,Y3,Y4,Y5,Y6,Y7,Y8,Y9,YA,zA,wN];refine⟨fun h=>Ql rfl Q5 rfl rfl rfl rfl (XS _) ?_,fun h=>Ql rfl Q5 rfl rfl rfl rfl (XS _) ?_⟩
 ·rw[e]
  have:decide (-z<0)=decide (0<((Xa z.natAbs).length:Int)):=by rw[decide_eq_decide];omega
  rw[this];exact⟨U_ _,U_ _,trivial⟩
 ·rw[e,show decide (-z<0)=false from Z_ (by omega)]
  exact⟨U_ _,U_ _,trivial⟩
theorem rS (z:Int):Fn Tryz.prog 191 [zA z] (I z.sign):=by
 have e0:z.natAbs=0↔z=0:=by omega
 have e1:(Xa z.natAbs).length=0↔z=0:=TAA.trans e0;refine Fq Tryz.call191 Tryz.func191 4 [] [] [] (by simp[KM]) (Xk ?_);simp(maxSteps:=999999)only[O_,↓X6,wA,↓reduceIte,reduceIte,reduceCtorEq,Y1,Y2,Y3,Y4,Y5,Y6,Y7,Y8,Y9,YA,zA,wN];refine⟨fun h=>Xn rfl rfl (X8 _) ?_,fun h=>⟨fun h2=>Xn rfl rfl (X8 _) ?_,fun h2=>Xn rfl rfl (X8 _) ?_⟩⟩
 ·rw[o_ h];rfl
 ·rw[e1.1 (by omega)];rfl
 ·rw[u_ (by omega)];rfl
theorem RO (d:List Int)(h:JO d):Fn Tryz.prog 223 [X9 d] (.tup [I (if d.length≤2 then val d else 0),.bool (decide (d.length≤2))]):=by
 have k2:¬d.length≤2→I 0=I (if d.length≤2 then val d else 0)∧AV.bool false=.bool (decide (d.length≤2)):=fun h=>by simp[h]
 have k1:d.length≤2→∀x,x=val d→I x=I (if d.length≤2 then val d else 0)∧AV.bool true=.bool (decide (d.length≤2)):=fun h x hx=>by simp[h,hx]
 refine Fq Tryz.call223 Tryz.func223 4 [5] [] [] (by simp[KM]) (Xk ?_);simp(maxSteps:=999999)only[O_,↓X6,wA,↓reduceIte,reduceIte,reduceCtorEq,Y1,Y2,Y3,Y4,Y5,Y6,Y7,Y8,Y9,YA,zA,wN];have fin:∀ {s:AS} {x:Int},s.get 2=I x→s.get 3=.bool true→d.length≤2→x=val d→TAC (JK Tryz.prog Tryz.f223 [] [] (.tup [I (if d.length≤2 then val d else 0),.bool (decide (d.length≤2))])) s:=fun h1 h2 hl hx =>
  mF rfl h1 h2 (X8 _) (X5 _) (k1 hl _ hx).1 (k1 hl _ hx).2
 refine⟨fun a=>fin rfl rfl (by omega) ?_,fun a0=>⟨fun a=>⟨by omega,by omega,fin rfl rfl (by omega) ?_⟩,fun a1=>⟨fun a=>⟨⟨by omega,by omega⟩,by omega,by omega,by omega,fin rfl rfl (by omega) ?_⟩,fun a2=>mF rfl rfl rfl (X8 _) (X5 _) (k2 (by omega)).1 (k2 (by omega)).2⟩⟩⟩
 ·obtain rfl:d=[]:=ZBe.1 (by omega)
  rfl
 ·obtain⟨x,rfl⟩:=ZBl.1 (show d.length=1 by omega)
  simp[val]
 ·obtain⟨x,y,rfl⟩:∃x y,d=[x,y]:=by
   match d,a with
   | [x,y],_=>exact⟨x,y,rfl⟩
   | [],h=>exact absurd h (by simp)
   | [_],h=>exact absurd h (by simp)
   |_ :: _ :: _ :: _,h=>exact absurd h (by simp;omega)
  have h1:=h x (by simp);have h2:=h y (by simp);unfold Qi at h1 h2;simp only[List.getD_cons_zero,ZCj,val,M'];omega
theorem Te (a:Int):Fn Tryz.prog 240 [I a] (.bool false):=by
 refine Fq Tryz.call240 Tryz.func240 3 [] [] [] (by simp[KM]) (Xk ?_);simp(maxSteps:=999999)only[O_,↓X6,wA,↓reduceIte,reduceIte,reduceCtorEq,Y1,Y2,Y3,Y4,Y5,Y6,Y7,Y8,Y9,YA,zA,wN];exact Xn rfl rfl (X5 _) rfl
theorem Yn (a b:Int):Fn Tryz.prog 225 [I a,I b] (I (a-b).sign):=by
 refine Fq Tryz.call225 Tryz.func225 7 [] [] [] (by simp[KM]) (Xk ?_);simp(maxSteps:=999999)only[O_,↓X6,wA,↓reduceIte,reduceIte,reduceCtorEq,Y1,Y2,Y3,Y4,Y5,Y6,Y7,Y8,Y9,YA,zA,wN];refine X2 (Te a) rfl ?_;simp only[↓X6,wA,↓reduceIte,reduceIte,reduceCtorEq,Y1,Y2,Y3,Y4,Y5,Y6,Y7,Y8,Y9,YA,zA,wN];refine X2 (Te b) rfl ?_;simp only[↓X6,wA,↓reduceIte,reduceIte,reduceCtorEq,Y1,Y2,Y3,Y4,Y5,Y6,Y7,Y8,Y9,YA,zA,wN];refine⟨fun h=>Xn rfl rfl (X8 _) ?_,fun h=>⟨fun h2=>Xn rfl rfl (X8 _) ?_,fun h2=>Xn rfl rfl (X8 _) ?_⟩⟩
 ·rw[o_ (by omega)];rfl
 ·rw[u_ (by omega)];rfl
 ·rw[show a-b=0 by omega];rfl
theorem jz {a b:List Int}(ha:JO a)(hb:JO b)(hl:a.length=b.length){i:Nat}(hi:i<a.length)(he:a.drop (i+1)=b.drop (i+1)) (hne:a.getD i 0≠b.getD i 0) :
  (val a-val b).sign=(a.getD i 0-b.getD i 0).sign:=by
 rw[JT a i,JT b i,KU a i hi,KU b i,he];have h1:=Qc (J0 ha i);have h2:=Qc (J0 hb i);have h3:=Ah (J0 ha i);have h4:=Ah (J0 hb i);have e1:(a.take i).length=i:=by rw[v_];omega
 have e2:(b.take i).length=i:=by rw[v_];omega
 rw[e1]at h3;rw[e2]at h4;generalize val (a.take i)=p at *;generalize val (b.take i)=q at *;generalize val (b.drop (i+1))=r at *;generalize a.getD i 0=x at *;generalize b.getD i 0=y at *;have hp:=JP i;generalize pw i=P at *;have e:p+P*(x+1000000000*r)-(q+P*(y+1000000000*r))=(p-q)+P*(x-y):=by grind
 rw[e];rcases Int.lt_or_gt_of_ne hne with h |h
 ·rw[o_ (show x-y<0 by omega)]
  have:P*(x-y)≤P*(-1):=X' (by omega) (by omega);exact o_ (by omega)
 ·rw[u_ (show 0<x-y by omega)]
  have:P*1≤P*(x-y):=X' (by omega) (by omega);exact u_ (by omega)
theorem EG {a b:List Int}(ha:AP a)(hb:AP b)(h:a.length<b.length):val a<val b:=by
 have h1:=Ah ha.1;have hne:b≠[]:=fun e=>by rw[e]at h;simp at h
 have h2:=Dl hb hne;have h3:=CU (show a.length≤b.length-1 by omega);omega
theorem GX {a b:List Int}(hl:a.length=b.length){i:Nat}(hi:i<a.length)(he:a.drop (i+1)=b.drop (i+1)) (h:a.getD i 0=b.getD i 0):a.drop i=b.drop i:=by
 have hi2:i<b.length:=by omega
 rw[ZBU hi,ZBU hi2,he];rw[K',V' hi,K',V' hi2]at h;simp only[ZBK]at h;rw[h]
theorem DT (a b:List Int)(ha:AP a)(hb:AP b)(la:a.length<4611686018427387904:=by omega):Fn Tryz.prog 189 [X9 a,X9 b] (I (val a-val b).sign):=by
 have hc:a.length≠b.length→Fn Tryz.prog 225 [I a.length,I b.length] (I (val a-val b).sign):=fun h=>by
  have e:((a.length:Int)-b.length).sign=(val a-val b).sign:=by
   rcases Nat.lt_or_gt_of_ne h with h' |h'
   ·have:=EG ha hb h'
    rw[o_ (by omega),o_ (by omega)]
   ·have:=EG hb ha h'
    rw[u_ (by omega),u_ (by omega)]
  rw[←e];exact Yn _ _
 refine Fq Tryz.call189 Tryz.func189 6 [] [] [] (by simp[KM]) (Xk ?_);simp(maxSteps:=999999)only[O_,↓X6,wA,seval,zA,wN];refine⟨fun h=>X2 (hc h) rfl ?_,fun hl=>?_⟩
 ·simp only[↓X6,wA,seval,zA,wN]
  exact Xn rfl rfl (X8 _) rfl
 refine Xj (fun k:Nat=>⟨6,[],[X9 a,X9 b,.any,.any,I 0,I ((k:Int)-1)],[],[]⟩) (fun k=>k≤a.length∧a.drop k=b.drop k) (fun k=>k) a.length ⟨by omega,by rw[ZDF,hl,ZDF]⟩
  ?_ ?_
 ·have w0:Q_.wrap ((a.length:Int)-1)=(a.length:Int)-1:=by rw[M'];omega
  rw[w0];exact(ZZ (by simp[zA,wN,Xo,X9,Dq,CN,QG,I]) rfl)
 rintro k ⟨hk,he⟩ next
 cases k with
 |zero =>
  refine Xk ?_;have e0:(0≤((0:Nat):Int)-1)=False:=R_ (by omega);have e1:((0:Int)≤0-1)=False:=R_ (by omega);simp only[e0,e1,↓X6,wA,seval,zA,wN];refine Xn rfl rfl (X8 _) ?_;rw[ZBg,ZBg]at he;rw[he,Int.sub_self];rfl
 |succ k =>
  have e1:((k+1:Nat):Int)-1=(k:Int):=by omega
  have w1:Q_.wrap ((k:Int)-1)=(k:Int)-1:=by rw[M'];omega
  have e2:((k:Int)<a.length)=True:=L' (by omega);have e3:(k<a.length)=True:=L' (by omega);have e4:(k<b.length)=True:=L' (by omega);have hcm:a.getD k 0≠b.getD k 0→Fn Tryz.prog 225 [I (a.getD k 0),I (b.getD k 0)] (I (val a-val b).sign):=fun h=>by
   rw[jz ha.1 hb.1 hl (by omega) he h];exact Yn _ _
  refine Xk ?_;simp only[e1,w1,e3,e4,↓X6,wA,seval,zA,wN];refine⟨fun h=>X2 (hcm h) rfl ?_,fun h=>next k _ ⟨by omega,GX hl (by omega) he h⟩ (by omega) (ZZ (by simp[zA,wN,Xo,X9,Dq,CN,QG,I]) rfl)⟩;simp only[↓X6,wA,seval,zA,wN];exact Xn rfl rfl (X8 _) rfl
theorem Gr (n:Int)(h:Ap n):Fn Tryz.prog 112 [I n] (zA n):=by
 obtain⟨R,hR⟩:∃R,R=zA n:=⟨_,rfl⟩
 have sR:A_ R:=hR▸XS _;unfold Ap at h;have c1:n<0→Fn Tryz.prog 181 [.bool (decide (n<0)),.int .u64 (ZAq.wrap (0-ZAq.wrap n))] R:=fun h1=>by
  have e:ZAq.wrap (0-ZAq.wrap n) = -n:=by rw[ZAi,ZAi];omega
  have e2:Zg (decide (n<0)) (-n)=n:=by unfold Zg;rw[N_ (c_ h1)];omega
  have:=ZQ (decide (n<0)) (-n);rw[e2]at this;rw[e,hR];exact this
 have c2:¬n<0→Fn Tryz.prog 181 [.bool (decide (n<0)),.int .u64 (ZAq.wrap n)] R:=fun h1=>by
  have e:ZAq.wrap n=n:=by rw[ZAi];omega
  have e2:Zg (decide (n<0)) n=n:=by unfold Zg;rw[M_ (by simp;omega)]
  have:=ZQ (decide (n<0)) n;rw[e2]at this;rw[e,hR];exact this
 rw[←hR];refine Fq Tryz.call112 Tryz.func112 4 [] [] [] (by simp[KM]) (Xk ?_);simp(maxSteps:=999999)only[O_,↓X6,wA,seval,zA,wN];refine⟨fun h1=>X2 (c1 h1) rfl ?_,fun h1=>X2 (c2 h1) rfl ?_⟩
 ·simp only[hR,↓X6,wA,seval,zA,wN]
  exact Ql rfl Q5 rfl rfl rfl hR sR ⟨U_ _,U_ _,trivial⟩
 ·simp only[hR,↓X6,wA,seval,zA,wN]
  exact Ql rfl Q5 rfl rfl rfl hR sR ⟨U_ _,U_ _,trivial⟩
end
end Go.Ab.N
