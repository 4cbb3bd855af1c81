/- Contracts of functions, for every argument that fits. -/
import Derived.Test.YtcmfnmceomhgcaaGreatAb4
import Derived.Test.YtcmfnmceomhgcaaGreatRows
import Derived.KernelRfl
open And renaming intro → XM
set_option linter.unusedSimpArgs false
set_option linter.unusedVariables false
open Nat renaming reducePow → Y1, reduceLT → Y2, reduceLeDiff → Y3, reduceEqDiff → Y4, reduceAdd → Y5, reduceMul → Y6, reduceSub → Y7, reduceBEq → Y8, reduceDiv → Y9, reduceMod → YA
open Go.Ab.AS renaming start→P'
open Go.IntKind renaming i64→Q_,wrap_u64→ZAY,u64→ZAh
open Int renaming mul_assoc→ZA7,toNat_of_nonneg→ZB5
open List renaming drop_eq_getElem_cons→ZBT,length_eq_zero_iff→ZBd,getD_cons_succ→ZCe,drop_length→ZDA,drop_eq_nil_iff→ZDt,length_pos_iff→ZDy
open Nat renaming min_eq_left→ZAv,strongRecOn→ZC9,exists_eq_add_of_le→ZDX,add_sub_cancel→ZED
namespace Go.Ab.N
open Go.Ab
open Classical
theorem L':type_of%@Nat.le_of_ble_eq_true:=@Nat.le_of_ble_eq_true
theorem Q':type_of%@eq_false:=@eq_false
theorem W_:type_of%@Int.mul_le_mul_of_nonneg_left:=@Int.mul_le_mul_of_nonneg_left
theorem X':type_of%@Go.Ab.B_.C':=@Go.Ab.B_.C'
theorem X_:type_of%@Classical.byContradiction:=@Classical.byContradiction
theorem Y':type_of%@decide_eq_true:=@decide_eq_true
theorem Y_:type_of%@decide_eq_false:=@decide_eq_false
theorem l_:type_of%@Int.mul_le_mul_of_nonneg_right:=@Int.mul_le_mul_of_nonneg_right
theorem n_:type_of%@Int.sign_eq_neg_one_of_neg:=@Int.sign_eq_neg_one_of_neg
theorem q_:type_of%@Int.tdiv_eq_ediv_of_nonneg:=@Int.tdiv_eq_ediv_of_nonneg
theorem u_:type_of%@Int.sign_eq_one_of_pos:=@Int.sign_eq_one_of_pos
theorem y_:type_of%@Go.Ab.Fn.intro:=@Go.Ab.Fn.intro
theorem ZAE:type_of%@Int.lt_irrefl:=@Int.lt_irrefl
theorem ZAN:type_of%@List.mem_or_eq_of_mem_set:=@List.mem_or_eq_of_mem_set
theorem ZAQ:type_of%@List.take_length:=@List.take_length
theorem ZBO:type_of%@Int.mul_nonneg:=@Int.mul_nonneg
theorem ZBe:type_of%@List.ext_getElem:=@List.ext_getElem
theorem ZBf:type_of%@List.drop_zero:=@List.drop_zero
theorem ZBk:type_of%@List.length_eq_one_iff:=@List.length_eq_one_iff
theorem ZDS:type_of%@Int.mul_add:=@Int.mul_add
theorem ZEF:type_of%@Int.ediv_nonneg:=@Int.ediv_nonneg
noncomputable section
def pw:Nat→Int
 |0=>1
 |n+1=>1000000000*pw n
theorem JI:∀n,0<pw n
 |0=>by simp[pw]
 |n+1=>by have:=JI n;simp only[pw];omega
theorem DS (m n:Nat):pw (m+n)=pw m*pw n:=by
 induction m with
 |zero=>simp[pw]
 |succ m ih=>rw[show m+1+n=(m+n)+1 by omega];simp only[pw];rw[ih,ZA7]
theorem CO {m n:Nat}(h:m≤n):pw m≤pw n:=by
 obtain⟨k,rfl⟩:=ZDX h
 induction k with
 |zero=>exact ZB0 _
 |succ k ih =>
  have h1:=ih (by omega);have h2:=JI (m+k);rw[show m+(k+1)=(m+k)+1 by omega];simp only[pw];omega
def val:List Int→Int
 | []=>0
 |d :: l=>d+1000000000*val l
def Qk (d:Int):Prop:=0≤d∧d<1000000000
def JG (l:List Int):Prop:=∀d∈l,Qk d
def AM (l:List Int):Prop:=JG l∧(l≠[]→l.getD (l.length-1) 0≠0)
theorem CJ:JG []:=fun _ h=>by cases h
theorem Zw {d:Int}{l:List Int}:JG (d :: l)↔Qk d∧JG l:=by unfold JG;simp
theorem Lo {l m:List Int}:JG (l ++ m)↔JG l∧JG m:=by
 unfold JG;constructor
 ·exact fun h=>⟨fun d hd=>h d (List.mem_append_left _ hd),fun d hd=>h d (List.mem_append_right _ hd)⟩
 ·rintro⟨h1,h2⟩ d hd
  rcases m_.1 hd with h |h
  ·exact h1 d h
  ·exact h2 d h
theorem JR {l:List Int}(h:JG l)(i:Nat):Qk (l.getD i 0):=by
 by_cases hi:i<l.length
 ·exact h _ (GV hi)
 ·rw[K',j_ (by omega)];exact⟨by simp,by simp⟩
theorem QU {l:List Int}(h:JG l)(n:Nat):JG (l.take n):=fun d hd=>h d (List.mem_of_mem_take hd)
theorem Ow {l:List Int}(h:∀i,i<l.length→Qk (l.getD i 0)):JG l:=by
 intro d hd;obtain⟨i,hi,rfl⟩:=ZAI hd;have:=h i hi;rwa[K',U_ hi]at this
theorem Qe {l:List Int}(h:JG l):0≤val l:=by
 induction l with
 |nil=>exact ZB0 0
 |cons d l ih =>
  obtain⟨h1,h2⟩:=Zw.1 h;have:=ih h2;simp only[val];unfold Qk at h1;omega
theorem Aa {l:List Int}(h:JG l):val l<pw l.length:=by
 induction l with
 |nil=>simp[val,pw]
 |cons d l ih =>
  obtain⟨h1,h2⟩:=Zw.1 h;have:=ih h2;simp only[val,ZAF,pw];unfold Qk at h1;omega
theorem RB (l m:List Int):val (l ++ m)=val l+pw l.length*val m:=by
 induction l with
 |nil=>simp[val,pw]
 |cons d l ih =>
  simp only[g_,val,ZAF,pw];rw[ih,ZDS,ZA7];omega
theorem EZ (l:List Int)(x:Int):val (l ++ [x])=val l+pw l.length*x:=by
 rw[RB];simp[val]
theorem JF (l:List Int)(i:Nat)(h:i<l.length):val (l.take (i+1))=val (l.take i)+pw i*l.getD i 0:=by
 rw[Ny l 0 i h,EZ,o_,ZAv (by omega)]
theorem FH (n:Nat):val (List.replicate n 0)=0:=by
 induction n with
 |zero=>rfl
 |succ n ih=>simp[List.replicate_succ,val,ih]
theorem Df {l:List Int}(h:AM l)(hne:l≠[]):pw (l.length-1)≤val l:=by
 have hl:=h.2 hne;have hlen:0<l.length:=ZDy.2 hne;have e:=JF l (l.length-1) (by omega);rw[show l.length-1+1=l.length by omega,ZAQ]at e;have h1:=Qe (QU h.1 (l.length-1));have h2:=JR h.1 (l.length-1);have h3:=JI (l.length-1);have h4:pw (l.length-1)*1≤pw (l.length-1)*l.getD (l.length-1) 0:=W_ (by unfold Qk at h2;omega) (by omega);omega
theorem LM:∀ {a b:List Int},JG a→JG b→a.length=b.length→val a=val b→a=b
 | [],[],_,_,_,_=>rfl
 | [],_ :: _,_,_,h,_=>by simp at h
 |_ :: _,[],_,_,h,_=>by simp at h
 |x :: a,y :: b,ha,hb,hl,hv=>by
  obtain⟨h1,h2⟩:=Zw.1 ha;obtain⟨h3,h4⟩:=Zw.1 hb;simp only[val]at hv;unfold Qk at h1 h3;have hxy:x=y:=by omega
  have hv':val a=val b:=by omega
  rw[hxy,LM h2 h4 (by simpa using hl) hv']
theorem bJ {a b:List Int}(ha:AM a)(hb:AM b)(h:val a=val b):a=b:=by
 have key:∀ {a b:List Int},AM a→AM b→val a=val b→a.length≤b.length→a=b:=by
  intro a b ha hb h hl;by_cases e:a.length=b.length
  ·exact LM ha.1 hb.1 e h
  ·exfalso
   have hne:b≠[]:=fun e'=>by
    have:b.length=0:=by rw[e'];rfl
    omega
   have h1:=Df hb hne;have h2:=Aa ha.1;have h3:=CO (show a.length≤b.length-1 by omega);omega
 rcases Nat.le_total a.length b.length with hl |hl
 ·exact key ha hb h hl
 ·exact(key hb ha h.symm hl).symm
def Xb (n:Nat):List Int:=if h:n=0 then []else((n%1000000000:Nat):Int) :: Xb (n/1000000000)
termination_by n
decreasing_by omega
theorem Qu:Xb 0=[]:=by rw[Xb];simp
theorem BF {n:Nat}(h:n≠0):Xb n=((n%1000000000:Nat):Int) :: Xb (n/1000000000):=by rw[Xb];simp[h]
theorem XG (n:Nat):val (Xb n)=n:=by
 induction n using ZC9 with
 |ind n ih =>
  by_cases h:n=0
  ·subst h;rw[Qu];rfl
  ·rw[BF h]
   simp only[val];rw[ih (n/1000000000) (by omega)];omega
theorem XZ (n:Nat):JG (Xb n):=by
 induction n using ZC9 with
 |ind n ih =>
  by_cases h:n=0
  ·subst h;rw[Qu];exact CJ
  ·rw[BF h]
   exact Zw.2 ⟨⟨by omega,by omega⟩,ih _ (by omega)⟩
theorem Lp {n:Nat}(h:n≠0):Xb n≠[]:=by rw[BF h];simp
theorem R0 {n:Nat}:Xb n=[]↔n=0:=⟨fun h=>X_ fun e=>Lp e h,fun h=>by rw[h];exact Qu⟩
theorem Q6 (n:Nat):AM (Xb n):=by
 refine⟨XZ n,?_⟩
 induction n using ZC9 with
 |ind n ih =>
  intro hne;by_cases h:n=0
  ·subst h;exact absurd Qu hne
  ·rw[BF h]
   by_cases h2:n/1000000000=0
   ·rw[h2,Qu];simp;omega
   ·have hn:=Lp h2
    have:=ih (n/1000000000) (by omega) hn;obtain⟨k,hk⟩:∃k,(Xb (n/1000000000)).length=k+1:=⟨(Xb (n/1000000000)).length-1,by have:=ZDy.2 hn;omega⟩
    simp only[ZAF,hk,ZED]at this ⊢
    simpa using this
theorem Bv {l:List Int}(h:AM l):Xb (val l).toNat=l:=by
 refine bJ (Q6 _) h ?_;rw[XG];have:=Qe h.1;omega
theorem rX {l:List Int}(h:JG l):((val l).toNat:Int)=val l:=ZB5 (Qe h)
def Ba (l:List Int):Nat→Nat
 |0=>0
 |n+1=>if l.getD n 0=0 then Ba l n else n+1
theorem ar (l:List Int):∀n,Ba l n≤n
 |0=>N' _
 |n+1=>by
  simp only[Ba]
  split
  ·exact Nat.le_succ_of_le (ar l n)
  ·exact N' _
theorem Uk {l:List Int}:∀n,n≤l.length→val (l.take (Ba l n))=val (l.take n)
 |0,_=>rfl
 |n+1,h=>by
  simp only[Ba]
  split
  ·rename_i e
   rw[Uk n (by omega),JF l n h,e];simp
  ·rfl
theorem Wm {l:List Int}(h:JG l)(n:Nat)(hn:n≤l.length):AM (l.take (Ba l n)):=by
 refine⟨QU h _,fun hne=>?_⟩
 induction n with
 |zero=>simp[Ba]at hne
 |succ n ih =>
  simp only[Ba]at hne ⊢
  split
  ·rename_i e;rw[N_ e]at hne;exact ih (by omega) hne
  ·rename_i e
   rw[o_,ZAv hn,ZED,Ca l 0 n (n+1) (by omega)];exact e
theorem fR {l:List Int}(h:JG l):l.take (Ba l l.length)=Xb (val l).toNat:=by
 have h1:=Wm h l.length (N' _);rw[←Bv h1,Uk _ (N' _),ZAQ]
def sm (f:Nat→Int):Nat→Int
 |0=>0
 |n+1=>sm f n+pw n*f n
def BD (f:Nat→Int)(n:Nat):List Int:=(List.range n).map f
theorem Qp (f:Nat→Int)(n:Nat):(BD f n).length=n:=by simp[BD]
theorem EX (f:Nat→Int)(n:Nat):BD f (n+1)=BD f n ++ [f n]:=by simp[BD,List.range_succ]
theorem D5 (f:Nat→Int)(n i:Nat)(h:i<n):(BD f n).getD i 0=f i:=by simp[BD,K',h]
theorem Zl {f f':Nat→Int}{n:Nat}(h:∀k,k<n→f k=f' k):BD f n=BD f' n:=ZAL fun k hk=>h k (by simpa using hk)
theorem HK (f:Nat→Int):∀n,val (BD f n)=sm f n
 |0=>rfl
 |n+1=>by rw[EX,EZ,Qp,HK f n];rfl
theorem aa (l:List Int):∀n,n≤l.length→sm (fun i=>l.getD i 0) n=val (l.take n)
 |0,_=>rfl
 |n+1,h=>by rw[JF l n h,←aa l n (by omega)];rfl
theorem wR (l:List Int)(n:Nat)(h:l.length≤n):sm (fun i=>l.getD i 0) n=val l:=by
 obtain⟨k,rfl⟩:=ZDX h
 induction k with
 |zero=>rw[ZAn,aa l _ (N' _),ZAQ]
 |succ k ih =>
  rw[show l.length+(k+1)=(l.length+k)+1 by omega];simp only[sm];rw[ih (by omega)];have:l.getD (l.length+k) 0=0:=by rw[K',j_ (by omega)];rfl
  rw[this];simp
theorem DK {f:Nat→Int}{n:Nat}(h:∀i,i<n→Qk (f i)):JG (BD f n):=by
 refine Ow fun i hi=>?_
 rw[Qp]at hi;rw[D5 _ _ _ hi];exact h i hi
def Qt (a b:Nat→Int):Nat→Int
 |0=>0
 |i+1=>if 1000000000≤a i+b i+Qt a b i then 1 else 0
def Bg (a b:Nat→Int)(i:Nat):Int:=if 1000000000≤a i+b i+Qt a b i then a i+b i+Qt a b i-1000000000 else a i+b i+Qt a b i
theorem Ep (a b:Nat→Int):∀i,Qt a b i=0∨Qt a b i=1
 |0=>.inl rfl
 |i+1=>by simp only[Qt];split <;> simp
theorem RS {a b:Nat→Int}{i:Nat}(ha:Qk (a i)) (hb:Qk (b i)):Qk (Bg a b i):=by
 have:=Ep a b i;unfold Qk at *;unfold Bg
 split <;> omega
theorem PA (a b:Nat→Int):∀n,sm (Bg a b) n+pw n*Qt a b n=sm a n+sm b n
 |0=>by simp[sm,Qt]
 |n+1=>by
  have ih:=PA a b n;have e:Bg a b n+1000000000*Qt a b (n+1)=a n+b n+Qt a b n:=by
   simp only[Bg,Qt]
   split <;> omega
  simp only[sm,pw];have:pw n*(Bg a b n+1000000000*Qt a b (n+1))=pw n*(a n+b n+Qt a b n):=by rw[e]
  grind
def Kk (a b:Nat→Int):Nat→Int
 |0=>0
 |i+1=>if a i-b i-Kk a b i<0 then 1 else 0
def BT (a b:Nat→Int)(i:Nat):Int:=if a i-b i-Kk a b i<0 then a i-b i-Kk a b i+1000000000 else a i-b i-Kk a b i
theorem HC (a b:Nat→Int):∀i,Kk a b i=0∨Kk a b i=1
 |0=>.inl rfl
 |i+1=>by simp only[Kk];split <;> simp
theorem Ua {a b:Nat→Int}{i:Nat}(ha:Qk (a i)) (hb:Qk (b i)):Qk (BT a b i):=by
 have:=HC a b i;unfold Qk at *;unfold BT
 split <;> omega
theorem Ry (a b:Nat→Int):∀n,sm (BT a b) n-pw n*Kk a b n=sm a n-sm b n
 |0=>by simp[sm,Kk]
 |n+1=>by
  have ih:=Ry a b n;have e:BT a b n-1000000000*Kk a b (n+1)=a n-b n-Kk a b n:=by
   simp only[BT,Kk]
   split <;> omega
  simp only[sm,pw];have:pw n*(BT a b n-1000000000*Kk a b (n+1))=pw n*(a n-b n-Kk a b n):=by rw[e]
  grind
theorem tM {f:Nat→Int}:∀ {n:Nat},(∀i,i<n→Qk (f i))→0≤sm f n∧sm f n<pw n
 |0,_=>by simp[sm,pw]
 |n+1,h=>by
  obtain⟨h1,h2⟩:=tM (n:=n) fun i hi=>h i (by omega)
  have h3:=h n (by omega);have h4:=JI n;unfold Qk at h3;have h5:pw n*f n≤pw n*999999999:=W_ (by omega) (by omega);have h6:0≤pw n*f n:=ZBO (by omega) h3.1;simp only[sm,pw];omega
theorem aj {a b:Nat→Int}{n:Nat}(ha:∀i,i<n→Qk (a i)) (hb:∀i,i<n→Qk (b i)) (h:sm b n≤sm a n):Kk a b n=0:=by
 have h1:=Ry a b n;have h2:=(tM (f:=BT a b) (n:=n) fun i hi=>Ua (ha i hi) (hb i hi)).2;rcases HC a b n with e |e
 ·exact e
 ·rw[e]at h1;omega
theorem QK (l:List Int)(i j:Nat)(x:Int)(hi:i<l.length):(l.set i x).getD j 0=if j=i then x else l.getD j 0:=by
 simp only[K',List.getElem?_set];by_cases h:i=j
 ·subst h;simp[hi]
 ·simp[h,v_ h]
theorem CW:∀ (l:List Int) (i:Nat) (x:Int),i<l.length→val (l.set i x)=val l+pw i*(x-l.getD i 0)
 | [],_,_,h=>by simp at h
 |d :: l,0,x,_=>by simp[val,pw];omega
 |d :: l,i+1,x,h=>by
  have ih:=CW l i x (by simpa using h);simp only[List.set_cons_succ,val,pw,ZCe];rw[ih,ZDS,ZA7];omega
theorem Fh {l:List Int}(h:JG l)(i:Nat){x:Int}(hx:Qk x):JG (l.set i x):=fun d hd=>by
 rcases ZAN hd with e |e
 ·exact h d e
 ·rw[e];exact hx
theorem Ci {x y:Int}(hx:Qk x)(hy:Qk y):0≤x*y∧x*y≤999999998000000001:=by
 unfold Qk at hx hy;have h1:0≤x*y:=ZBO hx.1 hy.1;have h2:x*y≤999999999*y:=l_ (by omega) hy.1;omega
theorem KP (l:List Int)(i:Nat)(h:i<l.length):val (l.drop i)=l.getD i 0+1000000000*val (l.drop (i+1)):=by
 rw[ZBT h];simp only[val];rw[K',U_ h];rfl
theorem JN (l:List Int)(i:Nat)(h:i≤l.length):val l=val (l.take i)+pw i*val (l.drop i):=by
 conv=>lhs;rw[←List.take_append_drop i l]
 rw[RB,o_,ZAv h]
def Z3 (a:Nat→Int)(k:Int):Nat→Int
 |0=>0
 |i+1=>(a i*k+Z3 a k i)/1000000000
def Gm (a:Nat→Int)(k:Int)(i:Nat):Int:=(a i*k+Z3 a k i)%1000000000
theorem Dn {a:Nat→Int}{k:Int}(ha:∀i,Qk (a i)) (hk:Qk k):∀i,Qk (Z3 a k i)
 |0=>⟨by simp[Z3],by simp[Z3]⟩
 |i+1=>by
  have h1:=Dn ha hk i;have h2:=Ci (ha i) hk;simp only[Z3];unfold Qk at *;omega
theorem lz {a:Nat→Int}{k:Int}(ha:∀i,Qk (a i)) (hk:Qk k) (i:Nat):Qk (Gm a k i):=by
 unfold Gm Qk;omega
theorem Ys (a:Nat→Int)(k:Int):∀n,sm (Gm a k) n+pw n*Z3 a k n=sm a n*k
 |0=>by simp[sm,Z3]
 |n+1=>by
  have ih:=Ys a k n;have e:Gm a k n+1000000000*Z3 a k (n+1)=a n*k+Z3 a k n:=by
   simp only[Gm,Z3];omega
  have e2:pw n*(Gm a k n+1000000000*Z3 a k (n+1))=pw n*(a n*k+Z3 a k n):=by rw[e]
  simp only[sm,pw];grind
def Kw (a:List Int)(b:Int)(i:Nat):Int:=val (a.drop i)%b
def AX (a:List Int)(b:Int)(i:Nat):Int:=(Kw a b (i+1)*1000000000+a.getD i 0)/b
theorem Il (a:List Int)(b:Int)(i:Nat)(h:i<a.length):Kw a b i=(Kw a b (i+1)*1000000000+a.getD i 0)%b:=by
 unfold Kw;rw[KP a i h];rw[Int.add_comm,Int.mul_comm,Int.add_emod,Int.mul_emod]
 conv=>rhs;rw[Int.add_emod,Int.mul_emod,Int.emod_emod_of_dvd _ (Int.dvd_refl b)]
theorem Nc (a:List Int)(b:Int):Kw a b a.length=0:=by unfold Kw;simp[val]
theorem EL {a:List Int}{b:Int}(ha:JG a)(hb:0<b)(i:Nat):Qk (AX a b i):=by
 have h1:=ZBr (val (a.drop (i+1))) (show b≠0 by omega);have h2:=ZBN (val (a.drop (i+1))) hb;have h3:=JR ha i;unfold Qk at *;unfold AX Kw;refine⟨ZEF (by omega) (by omega),Int.ediv_lt_of_lt_mul hb ?_⟩;omega
theorem YO {a:List Int}{b:Int}(hb:0<b):∀i,i≤a.length→val (a.drop (a.length-i))=b*val ((BD (AX a b) a.length).drop (a.length-i))+Kw a b (a.length-i)
 |0,_=>by
  have e:(BD (AX a b) a.length).drop a.length=[]:=by rw[ZDt,Qp];exact N' _
  simp[e,Nc,val]
 |i+1,h=>by
  have ih:=YO (a:=a) hb i (by omega);obtain⟨k,hk⟩:∃k,a.length-(i+1)=k:=⟨_,rfl⟩
  have hk1:a.length-i=k+1:=by omega
  rw[hk1]at ih;rw[hk];rw[KP a k (by omega),KP (BD (AX a b) a.length) k (by rw[Qp];omega),D5 _ _ _ (show k<a.length by omega)];have e:=Int.mul_ediv_add_emod (Kw a b (k+1)*1000000000+a.getD k 0) b;have e2:=Il a b k (by omega);have e3:AX a b k=(Kw a b (k+1)*1000000000+a.getD k 0)/b:=rfl;rw[←e3,←e2]at e;grind
theorem Rp {a:List Int}{b:Int}(hb:0<b):val a=b*val (BD (AX a b) a.length)+Kw a b 0:=by
 have:=YO (a:=a) hb a.length (N' _)
 simpa using this
def zA (z:Int):AV:=.agg [.bool (decide (z<0)),X8 (Xb z.natAbs)]
theorem XT (z:Int):A_ (zA z):=QD (by simp[Xc,X5])
theorem tu:(!(true == false))=true:=Go.Ab.C_ rfl
theorem tj:(!(false == true))=true:=Go.Ab.C_ rfl
theorem tw:(!(true == true))=false:=Go.Ab.C_ rfl
theorem ti:(!(false == false))=false:=Go.Ab.C_ rfl
set_option linter.defProp false in
def wN:=XM tu (XM tj (XM tw ti))
def Z9 (neg:Bool)(v:Int):Int:=if neg=true then -v else v
theorem TAA {n:Nat}:(Xb n).length=0↔n=0:=by rw[ZBd,R0]
theorem tz {l:List Int}(h:JG l)(neg:Bool):zA (Z9 neg (val l))=.agg [.bool (neg && decide (Ba l l.length≠0)),X8 (l.take (Ba l l.length))]:=by
 have h0:=Qe h;have e1:(Z9 neg (val l)).natAbs=(val l).toNat:=by unfold Z9;split <;> omega
 have e2:=fR h;have hle:=ar l l.length;have e3:Ba l l.length=0↔val l=0:=by
  have h1:(l.take (Ba l l.length)).length=Ba l l.length:=by rw[o_,ZAv hle]
  rw[←h1,e2,TAA];omega
 unfold zA;rw[e1,e2];congr 3;unfold Z9;have h0':¬val l<0:=by omega
 cases neg
 ·simp[h0']
 ·have:-val l<0↔¬Ba l l.length=0:=by rw[e3];omega
  simp only[if_true,ZBF,decide_eq_decide];exact this
theorem GN {d:Nat}(h0:d≠0)(h:d<1000000000):Xb d=[(d:Int)]:=by
 rw[BF h0,show d/1000000000=0 by omega,Qu,show d%1000000000=d by omega]
theorem Sy {d:Nat}(h0:1000000000≤d)(h:d<1000000000000000000):Xb d=[((d%1000000000:Nat):Int),((d/1000000000:Nat):Int)]:=by
 rw[BF (by omega),GN (by omega) (by omega)]
theorem Vh {d:Nat}(h0:1000000000000000000≤d)(h:d<18446744073709551616) :
  Xb d=[((d%1000000000:Nat):Int),((d/1000000000%1000000000:Nat):Int),((d/1000000000/1000000000:Nat):Int)]:=by
 rw[BF (by omega),Sy (by omega) (by omega)]
def dg (l:List Int):Nat→Int:=fun i=>l.getD i 0
theorem Qn {l:List Int}(h:JG l)(i:Nat):Qk (dg l i):=JR h i
theorem I2 {l:List Int}{i:Nat}(h:l.length≤i):dg l i=0:=by unfold dg;rw[K',j_ h];rfl
theorem EV (l:List Int)(n:Nat)(h:l.length≤n):sm (dg l) n=val l:=wR l n h
def Az (a b:List Int)(n:Nat):List Int:=BD (Bg (dg a) (dg b)) n ++ [Qt (dg a) (dg b) n]
theorem P2 (a b:List Int)(n:Nat)(ha:a.length≤n)(hb:b.length≤n):val (Az a b n)=val a+val b:=by
 unfold Az;rw[EZ,Qp,HK,PA,EV a n ha,EV b n hb]
theorem P1 {a b:List Int}(ha:JG a)(hb:JG b)(n:Nat):JG (Az a b n):=by
 unfold Az;refine Lo.2 ⟨DK fun i _=>RS (Qn ha i) (Qn hb i),Zw.2 ⟨?_,CJ⟩⟩;have:=Ep (dg a) (dg b) n;unfold Qk;omega
theorem Fv (a b:List Int)(n:Nat):(Az a b n).length=n+1:=by simp[Az,Qp]
def A6 (a b:List Int):List Int:=BD (BT (dg a) (dg b)) a.length
theorem Cm {a b:List Int}(ha:JG a)(hb:JG b)(hl:b.length≤a.length)(h:val b≤val a):val (A6 a b)=val a-val b:=by
 unfold A6;have e:=aj (n:=a.length) (fun i _=>Qn ha i) (fun i _=>Qn hb i) (by rw[EV b _ hl,EV a _ (N' _)];exact h);have e2:=Ry (dg a) (dg b) a.length;rw[e,EV a _ (N' _),EV b _ hl]at e2;rw[HK];omega
theorem Cl {a b:List Int}(ha:JG a)(hb:JG b):JG (A6 a b):=DK fun i _=>Ua (Qn ha i) (Qn hb i)
def Jp (a b:List Int)(i:Nat):List Int:=BD (fun j=>if j<i then BT (dg a) (dg b) j else if j=i then dg a j-Kk (dg a) (dg b) i else dg a j) a.length
theorem mS (l:List Int):BD (dg l) l.length=l:=by
 refine ZBe (by simp[BD]) fun i h1 h2=>?_
 simp[BD,dg,K',h2]
theorem T7 (a b:List Int):Jp a b 0=a:=by
 unfold Jp
 conv=>rhs;rw[←mS a]
 refine Zl fun k _=>?_
 rw[M_ (by omega)]
 split
 ·simp[Kk]
 ·rfl
theorem VJ (a b:List Int):Jp a b a.length=A6 a b:=Zl fun k hk=>by rw[N_ hk]
theorem BO (f:Nat→Int)(n k:Nat)(x:Int)(h:k<n):(BD f n).set k x=BD (fun q=>if q=k then x else f q) n:=by
 refine ZBe (by simp[BD]) fun q h1 h2=>?_
 have hq:q<n:=by simpa [Qp]using h2
 by_cases e:k=q
 ·subst e;simp[BD]
 ·simp[BD,List.getElem_set,e,v_ e]
end
end Go.Ab.N
namespace Go.Ab.N
open Go Go.Ab
open Classical
noncomputable section
theorem JX {l m:List AV}(h:TAR l m):B_ (.agg l) (.agg m):=fun c v hv=>by
 cases hv with
 |agg vs _ hs hr =>
  have:=(nE h) c (.tuple vs) (.tup vs _ hs hr);cases this with
  |tup _ _ hs' hr'=>exact .agg vs m hs' hr'
theorem QG (f:Nat→AV)(t:Bool):B_ (.sl 0 0 f t) (X8 []):=JJ rfl (N' _) fun j hj=>by exact absurd hj (ZAG j)
theorem Ce {n:Nat}{L:List AV}{l:List Int}{t:Bool}(hn:n=l.length)(h:L=l.map I):B_ (.sl n n (Xf L) t) (X8 l):=by
 subst hn;subst h;exact nC l t
theorem I0 (L:List AV):∀n off,off+n=L.length→QJ (Xf L) off 0 n=L.drop off:=by
 have key:∀n off j,off+j+n=L.length→QJ (Xf L) off j n=L.drop (off+j):=by
  intro n
  induction n with
  |zero=>intro off j h;rw[ZDt.2 (by omega)];rfl
  |succ n ih =>
   intro off j h;rw[ZBT (by omega)];simp only[QJ];rw[ih off (j+1) (by omega)];congr 1;show L.getD (off+j) .any=_;rw[K',U_ (by omega)];rfl
 intro n off h;rw[key n off 0 (by omega)];rfl
theorem Cv {P:Program}{fn:Func}{str hcs:List Nat}{r:AV}{s:AS}{t u id ver n:Nat}{L:List AV}(hr:fn.results=#[.cell t u])(hk:CD P u=some (some n)) (hs:s.get t=.ref id ver 0)
  (ho:s.h[id]?=some (.row ver n (Xf L))) (hn:L.length=n) (h:Zs s.h (.agg L) r):TAC (JK P fn str hcs r) s:=by
 subst hn;refine Hr (v:=.agg L) hr ?_ h;rw[hs,Bu,hk,KA,ho,KB,eJ,I0 L _ _ (by omega)];simp[Qd]
theorem Ql {P:Program}{fn:Func}{str hcs:List Nat}{r:AV}{s:AS}{t u id ver n:Nat}{L M:List AV}(hr:fn.results=#[.cell t u])(hk:CD P u=some (some n)) (hs:s.get t=.ref id ver 0)
  (ho:s.h[id]?=some (.row ver n (Xf L))) (hn:L.length=n) (e:r=.agg M) (TAG:A_ r) (h:TAR L M):TAC (JK P fn str hcs r) s:=by
 refine Cv hr hk hs ho hn ?_;subst e;exact Xw TAG (JX h)
end
end Go.Ab.N
namespace Go.Ab.N
open Go Go.RowKit Go.Proofs
theorem yp:CD Tryz.prog 3=some none:=by kernel_rfl
theorem wY:Zi Tryz.prog 3=some 1:=by kernel_rfl
theorem Vy:Vx Tryz.prog 3=some .i64:=by kernel_rfl
theorem xi:Qj Tryz.prog 3=some [.int .i64 0]:=by kernel_rfl
theorem yZ:CD Tryz.prog 4=some none:=by kernel_rfl
theorem wZ:Zi Tryz.prog 4=some 1:=by kernel_rfl
theorem uR:M9 Tryz.prog 4=true:=by kernel_rfl
theorem xj:Qj Tryz.prog 4=some [.bool false]:=by kernel_rfl
theorem yn:CD Tryz.prog 22=some none:=by kernel_rfl
theorem rM:Zi Tryz.prog 22=some 1:=by kernel_rfl
theorem ya:AK Tryz.prog 22=some (3,1,8):=by kernel_rfl
theorem yo:CD Tryz.prog 23=some none:=by kernel_rfl
theorem yb:AK Tryz.prog 23=some (30,8,128):=by kernel_rfl
theorem sn:Qj Tryz.prog 23=some [.sl 0 0 (fun _=>.any) true]:=by kernel_rfl
theorem Q8:CD Tryz.prog 26=some (some 2):=by kernel_rfl
theorem rN:Zi Tryz.prog 26=some 2:=by kernel_rfl
theorem pM:BX Tryz.prog 26 0=some (0,1,none):=by kernel_rfl
theorem oQ:QI Tryz.prog 26 0=some (0,1):=by kernel_rfl
theorem pN:BX Tryz.prog 26 1=some (1,1,none):=by kernel_rfl
theorem oR:QI Tryz.prog 26 1=some (1,1):=by kernel_rfl
theorem xN:Aw Tryz.prog 26=true:=by kernel_rfl
theorem so:Qj Tryz.prog 26=some [.bool false,.sl 0 0 (fun _=>.any) true]:=by kernel_rfl
theorem XY:CD Tryz.prog 28=some (some 4):=by kernel_rfl
theorem LJ:Zi Tryz.prog 28=some 4:=by kernel_rfl
theorem pO:BX Tryz.prog 28 0=some (0,2,some 2):=by kernel_rfl
theorem oS:QI Tryz.prog 28 0=some (0,2):=by kernel_rfl
theorem pQ:BX Tryz.prog 28 1=some (2,2,some 2):=by kernel_rfl
theorem oT:QI Tryz.prog 28 1=some (2,2):=by kernel_rfl
theorem xQ:Aw Tryz.prog 28=true:=by kernel_rfl
theorem Ec:Qj Tryz.prog 28=some [.bool false,.sl 0 0 (fun _=>.any) true,.bool false,.sl 0 0 (fun _=>.any) true]:=by kernel_rfl
theorem JH:CD Tryz.prog 30=some (some 8):=by kernel_rfl
theorem E9:Zi Tryz.prog 30=some 8:=by kernel_rfl
theorem pR:BX Tryz.prog 30 0=some (0,4,some 4):=by kernel_rfl
theorem oU:QI Tryz.prog 30 0=some (0,4):=by kernel_rfl
theorem pS:BX Tryz.prog 30 1=some (4,4,some 4):=by kernel_rfl
theorem oV:QI Tryz.prog 30 1=some (4,4):=by kernel_rfl
theorem xR:Aw Tryz.prog 30=true:=by kernel_rfl
theorem sr:Qj Tryz.prog 30=some [.bool false,.sl 0 0 (fun _=>.any) true,.bool false,.sl 0 0 (fun _=>.any) true,.bool false,.sl 0 0 (fun _=>.any) true,.bool false,.sl 0 0 (fun _=>.any) true]:=by kernel_rfl
theorem FZ:CD Tryz.prog 32=some (some 32):=by kernel_rfl
theorem LK:Zi Tryz.prog 32=some 32:=by kernel_rfl
theorem pT:BX Tryz.prog 32 0=some (0,8,some 8):=by kernel_rfl
theorem oW:QI Tryz.prog 32 0=some (0,8):=by kernel_rfl
theorem pU:BX Tryz.prog 32 1=some (8,8,some 8):=by kernel_rfl
theorem oX:QI Tryz.prog 32 1=some (8,8):=by kernel_rfl
theorem pV:BX Tryz.prog 32 2=some (16,8,some 8):=by kernel_rfl
theorem oY:QI Tryz.prog 32 2=some (16,8):=by kernel_rfl
theorem pW:BX Tryz.prog 32 3=some (24,4,some 4):=by kernel_rfl
theorem oZ:QI Tryz.prog 32 3=some (24,4):=by kernel_rfl
theorem pX:BX Tryz.prog 32 4=some (28,4,some 4):=by kernel_rfl
theorem p7:QI Tryz.prog 32 4=some (28,4):=by kernel_rfl
theorem xS:Aw Tryz.prog 32=true:=by kernel_rfl
theorem ss:Qj Tryz.prog 32=some [.bool false,.sl 0 0 (fun _=>.any) true,.bool false,.sl 0 0 (fun _=>.any) true,.bool false,.sl 0 0 (fun _=>.any) true,.bool false,.sl 0 0 (fun _=>.any) true,.bool false,.sl 0 0 (fun _=>.any) true,.bool false,.sl 0 0 (fun _=>.any) true,.bool false,.sl 0 0 (fun _=>.any) true,.bool false,.sl 0 0 (fun _=>.any) true,.bool false,.sl 0 0 (fun _=>.any) true,.bool false,.sl 0 0 (fun _=>.any) true,.bool false,.sl 0 0 (fun _=>.any) true,.bool false,.sl 0 0 (fun _=>.any) true,.bool false,.sl 0 0 (fun _=>.any) true,.bool false,.sl 0 0 (fun _=>.any) true,.bool false,.sl 0 0 (fun _=>.any) true,.bool false,.sl 0 0 (fun _=>.any) true]:=by kernel_rfl
theorem yc:AK Tryz.prog 35=some (32,32,512):=by kernel_rfl
theorem yd:AK Tryz.prog 37=some (23,1,24):=by kernel_rfl
theorem Yo:CD Tryz.prog 43=some (some 20):=by kernel_rfl
theorem rO:Zi Tryz.prog 43=some 20:=by kernel_rfl
theorem pY:BX Tryz.prog 43 0=some (0,8,some 8):=by kernel_rfl
theorem p8:QI Tryz.prog 43 0=some (0,8):=by kernel_rfl
theorem pZ:BX Tryz.prog 43 1=some (8,4,some 4):=by kernel_rfl
theorem p9:QI Tryz.prog 43 1=some (8,4):=by kernel_rfl
theorem qa:BX Tryz.prog 43 2=some (12,4,some 4):=by kernel_rfl
theorem pa:QI Tryz.prog 43 2=some (12,4):=by kernel_rfl
theorem qe:BX Tryz.prog 43 3=some (16,4,some 4):=by kernel_rfl
theorem pb:QI Tryz.prog 43 3=some (16,4):=by kernel_rfl
theorem xU:Aw Tryz.prog 43=true:=by kernel_rfl
theorem su:Qj Tryz.prog 43=some [.bool false,.sl 0 0 (fun _=>.any) true,.bool false,.sl 0 0 (fun _=>.any) true,.bool false,.sl 0 0 (fun _=>.any) true,.bool false,.sl 0 0 (fun _=>.any) true,.bool false,.sl 0 0 (fun _=>.any) true,.bool false,.sl 0 0 (fun _=>.any) true,.bool false,.sl 0 0 (fun _=>.any) true,.bool false,.sl 0 0 (fun _=>.any) true,.bool false,.sl 0 0 (fun _=>.any) true,.bool false,.sl 0 0 (fun _=>.any) true]:=by kernel_rfl
theorem ye:AK Tryz.prog 48=some (43,20,320):=by kernel_rfl
theorem yf:AK Tryz.prog 49=some (56,8,128):=by kernel_rfl
theorem qf:BX Tryz.prog 56 0=some (0,4,some 4):=by kernel_rfl
theorem pc:QI Tryz.prog 56 0=some (0,4):=by kernel_rfl
theorem qg:BX Tryz.prog 56 1=some (4,4,some 4):=by kernel_rfl
theorem pf:QI Tryz.prog 56 1=some (4,4):=by kernel_rfl
theorem xV:Aw Tryz.prog 56=true:=by kernel_rfl
theorem sw:Qj Tryz.prog 56=some [.bool false,.sl 0 0 (fun _=>.any) true,.bool false,.sl 0 0 (fun _=>.any) true,.bool false,.sl 0 0 (fun _=>.any) true,.bool false,.sl 0 0 (fun _=>.any) true]:=by kernel_rfl
theorem ta:CD Tryz.prog 85=some none:=by kernel_rfl
theorem rP:Zi Tryz.prog 85=some 1:=by kernel_rfl
theorem ju:AK Tryz.prog 85=some (131,5,88):=by kernel_rfl
theorem td:CD Tryz.prog 86=some none:=by kernel_rfl
theorem rQ:Zi Tryz.prog 86=some 1:=by kernel_rfl
theorem mH:Iq Tryz.prog 86=true:=by kernel_rfl
theorem FV:AK Tryz.prog 86=some (28,4,64):=by kernel_rfl
theorem sD:Qj Tryz.prog 86=some [.sl 0 0 (fun _=>.any) true]:=by kernel_rfl
theorem kT:CD Tryz.prog 88=some (some 3):=by kernel_rfl
theorem rR:Zi Tryz.prog 88=some 3:=by kernel_rfl
theorem qj:BX Tryz.prog 88 0=some (0,1,none):=by kernel_rfl
theorem pg:QI Tryz.prog 88 0=some (0,1):=by kernel_rfl
theorem ql:BX Tryz.prog 88 1=some (1,1,none):=by kernel_rfl
theorem qm:BX Tryz.prog 88 2=some (2,1,none):=by kernel_rfl
theorem ph:QI Tryz.prog 88 2=some (2,1):=by kernel_rfl
theorem xW:Aw Tryz.prog 88=true:=by kernel_rfl
theorem sE:Qj Tryz.prog 88=some [.int .i64 0,.sl 0 0 (fun _=>.any) true,.sl 0 0 (fun _=>.any) true]:=by kernel_rfl
theorem kU:CD Tryz.prog 91=some (some 7):=by kernel_rfl
theorem rS:Zi Tryz.prog 91=some 7:=by kernel_rfl
theorem qo:BX Tryz.prog 91 0=some (0,1,none):=by kernel_rfl
theorem pi:QI Tryz.prog 91 0=some (0,1):=by kernel_rfl
theorem qp:BX Tryz.prog 91 1=some (1,1,none):=by kernel_rfl
theorem pj:QI Tryz.prog 91 1=some (1,1):=by kernel_rfl
theorem pk:QI Tryz.prog 91 2=some (2,1):=by kernel_rfl
theorem qr:BX Tryz.prog 91 3=some (3,4,some 4):=by kernel_rfl
theorem pm:QI Tryz.prog 91 3=some (3,4):=by kernel_rfl
theorem xX:Aw Tryz.prog 91=true:=by kernel_rfl
theorem sF:Qj Tryz.prog 91=some [.int .i64 0,.sl 0 0 (fun _=>.any) true,.sl 0 0 (fun _=>.any) true,.bool false,.sl 0 0 (fun _=>.any) true,.bool false,.sl 0 0 (fun _=>.any) true]:=by kernel_rfl
theorem GZ:CD Tryz.prog 99=some (some 8):=by kernel_rfl
theorem rU:Zi Tryz.prog 99=some 8:=by kernel_rfl
theorem qs:BX Tryz.prog 99 0=some (0,4,some 4):=by kernel_rfl
theorem po:QI Tryz.prog 99 0=some (0,4):=by kernel_rfl
theorem qt:BX Tryz.prog 99 1=some (4,4,some 4):=by kernel_rfl
theorem pq:QI Tryz.prog 99 1=some (4,4):=by kernel_rfl
theorem xY:Aw Tryz.prog 99=true:=by kernel_rfl
theorem sG:Qj Tryz.prog 99=some [.bool false,.sl 0 0 (fun _=>.any) true,.bool false,.sl 0 0 (fun _=>.any) true,.bool false,.sl 0 0 (fun _=>.any) true,.bool false,.sl 0 0 (fun _=>.any) true]:=by kernel_rfl
theorem kQ:CD Tryz.prog 101=some (some 16):=by kernel_rfl
theorem mV:Zi Tryz.prog 101=some 16:=by kernel_rfl
theorem jQ:BX Tryz.prog 101 0=some (0,8,some 8):=by kernel_rfl
theorem iN:QI Tryz.prog 101 0=some (0,8):=by kernel_rfl
theorem jR:BX Tryz.prog 101 1=some (8,8,some 8):=by kernel_rfl
theorem iO:QI Tryz.prog 101 1=some (8,8):=by kernel_rfl
theorem uL:Aw Tryz.prog 101=true:=by kernel_rfl
theorem nK:Qj Tryz.prog 101=some [.bool false,.sl 0 0 (fun _=>.any) true,.bool false,.sl 0 0 (fun _=>.any) true,.bool false,.sl 0 0 (fun _=>.any) true,.bool false,.sl 0 0 (fun _=>.any) true,.bool false,.sl 0 0 (fun _=>.any) true,.bool false,.sl 0 0 (fun _=>.any) true,.bool false,.sl 0 0 (fun _=>.any) true,.bool false,.sl 0 0 (fun _=>.any) true]:=by kernel_rfl
theorem uY:AK Tryz.prog 105=some (108,24,384):=by kernel_rfl
theorem vQ:CD Tryz.prog 108=some (some 24):=by kernel_rfl
theorem mW:Zi Tryz.prog 108=some 24:=by kernel_rfl
theorem jS:BX Tryz.prog 108 0=some (0,8,some 8):=by kernel_rfl
theorem iP:QI Tryz.prog 108 0=some (0,8):=by kernel_rfl
theorem jT:BX Tryz.prog 108 1=some (8,8,some 8):=by kernel_rfl
theorem iQ:QI Tryz.prog 108 1=some (8,8):=by kernel_rfl
theorem jU:BX Tryz.prog 108 2=some (16,8,some 8):=by kernel_rfl
theorem iR:QI Tryz.prog 108 2=some (16,8):=by kernel_rfl
theorem uM:Aw Tryz.prog 108=true:=by kernel_rfl
theorem nL:Qj Tryz.prog 108=some [.bool false,.sl 0 0 (fun _=>.any) true,.bool false,.sl 0 0 (fun _=>.any) true,.bool false,.sl 0 0 (fun _=>.any) true,.bool false,.sl 0 0 (fun _=>.any) true,.bool false,.sl 0 0 (fun _=>.any) true,.bool false,.sl 0 0 (fun _=>.any) true,.bool false,.sl 0 0 (fun _=>.any) true,.bool false,.sl 0 0 (fun _=>.any) true,.bool false,.sl 0 0 (fun _=>.any) true,.bool false,.sl 0 0 (fun _=>.any) true,.bool false,.sl 0 0 (fun _=>.any) true,.bool false,.sl 0 0 (fun _=>.any) true]:=by kernel_rfl
theorem kR:CD Tryz.prog 131=some (some 5):=by kernel_rfl
theorem mX:Zi Tryz.prog 131=some 5:=by kernel_rfl
theorem jV:BX Tryz.prog 131 0=some (0,1,none):=by kernel_rfl
theorem Sm:QI Tryz.prog 131 0=some (0,1):=by kernel_rfl
theorem jW:BX Tryz.prog 131 1=some (1,4,some 4):=by kernel_rfl
theorem Sn:QI Tryz.prog 131 1=some (1,4):=by kernel_rfl
theorem iM:Aw Tryz.prog 131=true:=by kernel_rfl
theorem NG:Qj Tryz.prog 131=some [.sl 0 0 (fun _=>.any) true,.bool false,.sl 0 0 (fun _=>.any) true,.bool false,.sl 0 0 (fun _=>.any) true]:=by kernel_rfl
theorem vR:CD Tryz.prog 142=some none:=by kernel_rfl
theorem mY:Zi Tryz.prog 142=some 1:=by kernel_rfl
theorem uZ:AK Tryz.prog 142=some (86,1,24):=by kernel_rfl
theorem kS:CD Tryz.prog 145=some none:=by kernel_rfl
theorem mZ:Zi Tryz.prog 145=some 1:=by kernel_rfl
theorem nM:Qj Tryz.prog 145=some [.nil]:=by kernel_rfl
theorem jX:BX Tryz.prog 148 0=some (0,1,none):=by kernel_rfl
theorem iS:QI Tryz.prog 148 0=some (0,1):=by kernel_rfl
theorem jY:BX Tryz.prog 148 1=some (1,1,none):=by kernel_rfl
theorem iT:QI Tryz.prog 148 1=some (1,1):=by kernel_rfl
theorem jZ:BX Tryz.prog 148 2=some (2,1,none):=by kernel_rfl
theorem iU:QI Tryz.prog 148 2=some (2,1):=by kernel_rfl
theorem ka:BX Tryz.prog 148 3=some (3,1,none):=by kernel_rfl
theorem kc:BX Tryz.prog 148 4=some (4,1,none):=by kernel_rfl
theorem ke:BX Tryz.prog 148 5=some (5,1,none):=by kernel_rfl
theorem uN:Aw Tryz.prog 148=true:=by kernel_rfl
theorem nN:Qj Tryz.prog 148=some [.int .i64 0,.int .i64 0,.int .i64 0,.sl 0 0 (fun _=>.any) true,.sl 0 0 (fun _=>.any) true,.sl 0 0 (fun _=>.any) true]:=by kernel_rfl
theorem v6:AK Tryz.prog 155=none:=by kernel_rfl
theorem iV:QI Tryz.prog 155 0=some (0,1):=by kernel_rfl
theorem iW:QI Tryz.prog 155 1=some (1,1):=by kernel_rfl
theorem uO:Aw Tryz.prog 155=true:=by kernel_rfl
theorem uE:fZ Tryz.prog 155=some (2,1,none):=by kernel_rfl
theorem nO:Qj Tryz.prog 155=some [.int .i64 0,.int .i64 0]:=by kernel_rfl
theorem v7:AK Tryz.prog 156=some (155,2,16):=by kernel_rfl
theorem vS:CD Tryz.prog 172=some none:=by kernel_rfl
theorem nc:Zi Tryz.prog 172=some 1:=by kernel_rfl
theorem nP:Qj Tryz.prog 172=some [.TBe]:=by kernel_rfl
theorem kf:BX Tryz.prog 178 0=some (0,1,none):=by kernel_rfl
theorem kg:BX Tryz.prog 178 1=some (1,1,none):=by kernel_rfl
theorem kh:BX Tryz.prog 178 2=some (2,1,none):=by kernel_rfl
theorem uP:Aw Tryz.prog 178=true:=by kernel_rfl
theorem nQ:Qj Tryz.prog 178=some [.sl 0 0 (fun _=>.any) true,.sl 0 0 (fun _=>.any) true,.sl 0 0 (fun _=>.any) true]:=by kernel_rfl
theorem vK:Vx Tryz.prog 185=some .u64:=by kernel_rfl
theorem vT:CD Tryz.prog 198=some (some 3):=by kernel_rfl
theorem nd:Zi Tryz.prog 198=some 3:=by kernel_rfl
theorem v8:AK Tryz.prog 198=none:=by kernel_rfl
theorem iX:QI Tryz.prog 198 0=some (0,1):=by kernel_rfl
theorem iY:QI Tryz.prog 198 1=some (1,1):=by kernel_rfl
theorem iZ:QI Tryz.prog 198 2=some (2,1):=by kernel_rfl
theorem uQ:Aw Tryz.prog 198=true:=by kernel_rfl
theorem uF:fZ Tryz.prog 198=some (3,1,none):=by kernel_rfl
theorem nR:Qj Tryz.prog 198=some [.int .i64 0,.int .i64 0,.int .i64 0]:=by kernel_rfl
theorem vd:AK Tryz.prog 199=some (198,3,24):=by kernel_rfl
theorem vM:Vx Tryz.prog 214=some .u64:=by kernel_rfl
theorem mixed:Tryz.prog.follows .mixedOrders=true:=by kernel_rfl
theorem Fq {f:FuncId}{fn:Func}{body:Code}{args:List AV}{r:AV}(he:Cf Tryz.prog f)(hf:Tryz.prog.funcs[f]?=some fn)(n0:Nat)(hid str hcs:List Nat)(hs:∀ a∈args,A_ a)(h:Run (JK Tryz.prog fn str hcs r) [.code body] (P' n0 hid args [])) (hb:fn.body=some body:=by rfl) (hok:QO fn.ntmps str hcs body=true:=by kernel_rfl) (hlen:args.length≤fn.ntmps:=by exact L' rfl):Fn Tryz.prog f args r:=y_ he hf hb mixed n0 hid str hcs hok hlen hs h
set_option linter.defProp false in
def RC:=XM @yp <| XM @wY <| XM @Vy <| XM @xi <| XM @yZ <| XM @wZ <| XM @uR <| XM @xj <| XM @yn <| XM @rM <| XM @ya <| XM @yo <| XM @yb <| XM @sn <| XM @Q8 <| XM @rN <| XM @pM <| XM @oQ <| XM @pN <| XM @oR <| XM @xN <| XM @so <| XM @XY <| XM @LJ <| XM @pO <| XM @oS <| XM @pQ <| XM @oT <| XM @xQ <| XM @Ec <| XM @JH <| XM @E9 <| XM @pR <| XM @oU <| XM @pS <| XM @oV <| XM @xR <| XM @sr <| XM @FZ <| XM @LK <| XM @pT <| XM @oW <| XM @pU <| XM @oX <| XM @pV <| XM @oY <| XM @pW <| XM @oZ <| XM @pX <| XM @p7 <| XM @xS <| XM @ss <| XM @yc <| XM @yd <| XM @Yo <| XM @rO <| XM @pY <| XM @p8 <| XM @pZ <| XM @p9 <| XM @qa <| XM @pa <| XM @qe <| XM @pb <| XM @xU <| XM @su <| XM @ye <| XM @yf <| XM @qf <| XM @pc <| XM @qg <| XM @pf <| XM @xV <| XM @sw <| XM @ta <| XM @rP <| XM @ju <| XM @td <| XM @rQ <| XM @mH <| XM @FV <| XM @sD <| XM @kT <| XM @rR <| XM @qj <| XM @pg <| XM @ql <| XM @qm <| XM @ph <| XM @xW <| XM @sE <| XM @kU <| XM @rS <| XM @qo <| XM @pi <| XM @qp <| XM @pj <| XM @pk <| XM @qr <| XM @pm <| XM @xX <| XM @sF <| XM @GZ <| XM @rU <| XM @qs <| XM @po <| XM @qt <| XM @pq <| XM @xY <| XM @sG <| XM @kQ <| XM @mV <| XM @jQ <| XM @iN <| XM @jR <| XM @iO <| XM @uL <| XM @nK <| XM @uY <| XM @vQ <| XM @mW <| XM @jS <| XM @iP <| XM @jT <| XM @iQ <| XM @jU <| XM @iR <| XM @uM <| XM @nL <| XM @kR <| XM @mX <| XM @jV <| XM @Sm <| XM @jW <| XM @Sn <| XM @iM <| XM @NG <| XM @vR <| XM @mY <| XM @uZ <| XM @kS <| XM @mZ <| XM @nM <| XM @jX <| XM @iS <| XM @jY <| XM @iT <| XM @jZ <| XM @iU <| XM @ka <| XM @kc <| XM @ke <| XM @uN <| XM @nN <| XM @v6 <| XM @iV <| XM @iW <| XM @uO <| XM @uE <| XM @nO <| XM @v7 <| XM @vS <| XM @nc <| XM @nP <| XM @kf <| XM @kg <| XM @kh <| XM @uP <| XM @nQ <| XM @vK <| XM @vT <| XM @nd <| XM @v8 <| XM @iX <| XM @iY <| XM @iZ <| XM @uQ <| XM @uF <| XM @nR <| XM @vd <| @vM
set_option linter.defProp false in
def wA:=XM @yG <| XM @yF <| XM @yE <| XM @beq_self_eq_true.{0} <| XM @ite_true.{1} <| XM @ite_false.{1} <| XM @false_implies <| XM @true_implies <| XM @implies_true.{1} <| XM @implies_true.{0} <| XM @eq_self.{1} <| XM @ne_eq.{1} <| @RC
theorem Xk {X:Env}{k:List Item}{s:AS}(h:QV (D1 s) fun s=>vc X 1000 k s):Run X k s:=XF 1000 h
theorem ZS {m:Nat}{s s':AS}(h3:Xm s.sl s'.sl)(h5:s.h=s'.h)(h1:s'.n0=s.n0:=by rfl)(h4:Xu s.tm s'.tm:=by simp[Xu]):Sub m s s':=Xh h1 h3 h4 h5
theorem mD {b m:Nat}{s s':AS}(h3:Xm s.sl s'.sl)(h5:s.h.take m=s'.h)(h6:∀ a∈s'.sl,J9 m a)(h8:∀ o∈s'.h,XX m o)(h7:∀ p∈s'.tm,J9 m p.2:=by simp [XK])(h4:Xu s.tm s'.tm:=by simp [Xu])(h1:s'.n0=s.n0:=by rfl)(hbm:b≤m:=by exact p_ _):Sub b s s':=XD hbm h1 h3 h4 h5 h6 h7 h8
end Go.Ab.N
namespace Go.Ab.N
open Go Go.RowKit Go.Proofs
noncomputable section
set_option maxRecDepth 10000
set_option maxHeartbeats 2000000
open Classical
def lF (neg:Bool)(l:List Int):AV:=.agg [.bool (neg && decide (Ba l l.length≠0)),X8 (l.take (Ba l l.length))]
theorem KY (neg:Bool)(l:List Int):A_ (lF neg l):=QD (by simp[Xc,X5])
theorem yu (neg:Bool)(d:List Int)(hl:d.length<4611686018427387904):Fn Tryz.prog 182 [.bool neg,X8 d] (lF neg d):=by
 refine Fq Tryz.call182 Tryz.func182 6 [] [] [] (by simp[Xc,X9,KV,K4,X5,KX,XT,KY,Jn]) (Xk ?_);simp(maxSteps:=999999)only[P',↓X6,wA,seval,zA,wN];refine Xi (fun n:Nat=>⟨6,[],[.bool neg,X8 d,.any,.any,.ref 0 0 0,I n],[],[.row 0 2 (Xf [.bool false,.sl 0 0 (fun _=>.any) true])]⟩) (fun n=>n≤d.length∧Ba d d.length=Ba d n) (fun n=>n) d.length ⟨by omega,rfl⟩
  (ZS (by simp[zA,wN,Xm,X8,Dm,CH,QE,I]) rfl) ?_
 rintro n ⟨hn,ht⟩ next
 cases n with
 |zero =>
  refine Xk ?_;simp only[ZAE,↓X6,wA,seval,zA,wN];refine Hr (v:=.agg [.bool false,.sl 0 0 (fun _=>.any) false]) rfl (by simp[AS.get,Qx,Q8,rd,QJ,Xf,EJ]) ?_;have e:lF neg d=.agg [.bool false,X8 []]:=by unfold lF;rw[ht];simp[Ba]
  rw[e];exact Du ⟨XU (X5 _) rfl,Xw (Xc _) (QG _ _),trivial⟩
 |succ n =>
  have e0:(0<((n+1:Nat):Int))=True:=K_ (by omega);have e1:(((n+1:Nat):Int)=0)=False:=Q' (by omega);have w1:Q_.wrap (((n+1:Nat):Int)-1)=(n:Int):=by rw[M'];omega
  have e2:(n<d.length)=True:=K_ (by omega);refine Xk ?_;simp only[e0,e1,e2,w1,↓X6,wA,seval,zA,wN];refine⟨fun h0=>next n _ ⟨by omega,by rw[ht];simp only[Ba];rw[N_ h0]⟩ (by omega) (ZS (by simp[zA,wN,Xm,X8,Dm,CH,QE,I]) rfl),fun h0=>⟨by omega,?_⟩⟩;have ht2:Ba d d.length=n+1:=by rw[ht];simp only[Ba];rw[M_ h0]
  have e:lF neg d=.agg [.bool neg,X8 (d.take (n+1))]:=by unfold lF;rw[ht2];simp
  have hlen:(d.take (n+1)).length=n+1:=by rw[o_];omega
  rw[e];refine Hr (v:=.agg [.bool neg,.sl (n+1) (n+1) (fun j=>.int .i64 (d.getD j 0)) false]) rfl ?_ ?_
  ·have m1:min (n+1) d.length=n+1:=by omega
   simp[AS.get,Qx,Q8,rd,QJ,Xf,EJ,m1]
  ·refine Du ⟨XU (X5 _) rfl,Xw (Xc _) (HL _ hlen.symm (by omega) fun j hj=>?_),trivial⟩
   rw[hlen]at hj;rw[Ca d 0 j (n+1) hj];rfl
set_option linter.defProp false in
def KJ:=XM @Xc (XM @X9 (XM @KV (XM @K4 (XM @X5 (XM @KX (XM @XT (XM @KY @Jn)))))))
theorem nJ (neg:Bool){u:Int}(h:0≤u):zA (Z9 neg u)=.agg [.bool (neg && decide (u≠0)),X8 (Xb u.toNat)]:=by
 unfold zA;have e1:(Z9 neg u).natAbs=u.toNat:=by unfold Z9;split <;> omega
 rw[e1];congr 3;unfold Z9;have h0':¬u<0:=by omega
 cases neg
 ·simp[h0']
 ·have:-u<0↔¬u=0:=by omega
  simp only[if_true,ZBF,decide_eq_decide,ne_eq];exact this
def U (n:Int):AV:=.int .u64 n
theorem ZG (neg:Bool)(u:Int)(h0:0≤u)(h1:u<18446744073709551616):Fn Tryz.prog 181 [.bool neg,.int .u64 u] (zA (Z9 neg u)):=by
 obtain⟨R,hR⟩:∃R,R=zA (Z9 neg u):=⟨_,rfl⟩
 have eR:=hR.trans (nJ neg h0);have sR:A_ R:=hR▸XT _;have b1:u≠0→(neg && decide (u≠0))=neg:=fun h=>by simp[h]
 have w1:Q_.wrap (u.tmod 1000000000)=u%1000000000:=by rw[M',ZAA h0];omega
 have w2:ZAh.wrap (u.tdiv 1000000000)=u/1000000000:=by rw[ZAY,q_ h0];omega
 have h2:0≤u/1000000000:=by omega
 have w3:Q_.wrap (u/1000000000)=u/1000000000:=by rw[M'];omega
 have w4:Q_.wrap ((u/1000000000).tmod 1000000000)=u/1000000000%1000000000:=by rw[M',ZAA h2];omega
 have w5:ZAh.wrap ((u/1000000000).tdiv 1000000000)=u/1000000000/1000000000:=by rw[ZAY,q_ h2];omega
 have w6:Q_.wrap (u/1000000000/1000000000)=u/1000000000/1000000000:=by rw[M'];omega
 rw[←hR];refine Fq Tryz.call181 Tryz.func181 6 [] [] [] (by simp[KJ]) (Xk ?_);simp(maxSteps:=999999)only[P',↓X6,wA,↓reduceIte,reduceIte,reduceCtorEq,Y1,Y2,Y3,Y4,Y5,Y6,Y7,Y8,Y9,YA,zA,wN];simp only[w1,w2,w3,w4,w5,w6];refine⟨fun a=>?_,fun a0=>⟨fun a1=>?_,fun a1=>⟨fun a2=>⟨by omega,by omega,?_⟩,fun a2=>⟨by omega,by omega,by omega,by omega,by omega,?_⟩⟩⟩⟩
 ·rw[a,show(neg && decide ((0:Int)≠0))=false by simp,show(0:Int).toNat=0 from rfl,Qu]at eR
  exact Ql rfl Q8 rfl rfl rfl eR sR ⟨X' _,QG _ _,trivial⟩
 ·have w0:Q_.wrap u=u:=by rw[M'];omega
  rw[b1 a0,GN (by omega) (by omega),ZB5 h0]at eR;rw[w0];exact Ql rfl Q8 rfl rfl rfl eR sR ⟨X' _,Ce rfl rfl,trivial⟩
 ·rw[b1 a0,Sy (by omega) (by omega)]at eR
  have e1:((u.toNat%1000000000:Nat):Int)=u%1000000000:=by omega
  have e2:((u.toNat/1000000000:Nat):Int)=u/1000000000:=by omega
  rw[e1,e2]at eR;exact Ql rfl Q8 rfl rfl rfl eR sR ⟨X' _,Ce rfl rfl,trivial⟩
 ·rw[b1 a0,Vh (by omega) (by omega)]at eR
  have e1:((u.toNat%1000000000:Nat):Int)=u%1000000000:=by omega
  have e2:((u.toNat/1000000000%1000000000:Nat):Int)=u/1000000000%1000000000:=by omega
  have e3:((u.toNat/1000000000/1000000000:Nat):Int)=u/1000000000/1000000000:=by omega
  rw[e1,e2,e3]at eR;exact Ql rfl Q8 rfl rfl rfl eR sR ⟨X' _,Ce rfl rfl,trivial⟩
theorem Rh (z:Int):Fn Tryz.prog 187 [zA z] (zA (-z)):=by
 have e:(-z).natAbs=z.natAbs:=by omega
 have e0:z.natAbs=0↔z=0:=by omega
 have e1:(Xb z.natAbs).length=0↔z=0:=TAA.trans e0;refine Fq Tryz.call187 Tryz.func187 3 [] [] [] (by simp[KJ]) (Xk ?_);simp(maxSteps:=999999)only[P',↓X6,wA,↓reduceIte,reduceIte,reduceCtorEq,Y1,Y2,Y3,Y4,Y5,Y6,Y7,Y8,Y9,YA,zA,wN];refine⟨fun h=>Ql rfl Q8 rfl rfl rfl rfl (XT _) ?_,fun h=>Ql rfl Q8 rfl rfl rfl rfl (XT _) ?_⟩
 ·rw[e]
  have:decide (-z<0)=decide (0<((Xb z.natAbs).length:Int)):=by rw[decide_eq_decide];omega
  rw[this];exact⟨X' _,X' _,trivial⟩
 ·rw[e,show decide (-z<0)=false from Y_ (by omega)]
  exact⟨X' _,X' _,trivial⟩
theorem rD (z:Int):Fn Tryz.prog 191 [zA z] (I z.sign):=by
 have e0:z.natAbs=0↔z=0:=by omega
 have e1:(Xb z.natAbs).length=0↔z=0:=TAA.trans e0;refine Fq Tryz.call191 Tryz.func191 4 [] [] [] (by simp[KJ]) (Xk ?_);simp(maxSteps:=999999)only[P',↓X6,wA,↓reduceIte,reduceIte,reduceCtorEq,Y1,Y2,Y3,Y4,Y5,Y6,Y7,Y8,Y9,YA,zA,wN];refine⟨fun h=>Xp rfl rfl (X9 _) ?_,fun h=>⟨fun h2=>Xp rfl rfl (X9 _) ?_,fun h2=>Xp rfl rfl (X9 _) ?_⟩⟩
 ·rw[n_ h];rfl
 ·rw[e1.1 (by omega)];rfl
 ·rw[u_ (by omega)];rfl
theorem Rz (d:List Int)(h:JG d):Fn Tryz.prog 223 [X8 d] (.tup [I (if d.length≤2 then val d else 0),.bool (decide (d.length≤2))]):=by
 have k2:¬d.length≤2→I 0=I (if d.length≤2 then val d else 0)∧AV.bool false=.bool (decide (d.length≤2)):=fun h=>by simp[h]
 have k1:d.length≤2→∀x,x=val d→I x=I (if d.length≤2 then val d else 0)∧AV.bool true=.bool (decide (d.length≤2)):=fun h x hx=>by simp[h,hx]
 refine Fq Tryz.call223 Tryz.func223 4 [5] [] [] (by simp[KJ]) (Xk ?_);simp(maxSteps:=999999)only[P',↓X6,wA,↓reduceIte,reduceIte,reduceCtorEq,Y1,Y2,Y3,Y4,Y5,Y6,Y7,Y8,Y9,YA,zA,wN];have fin:∀ {s:AS} {x:Int},s.get 2=I x→s.get 3=.bool true→d.length≤2→x=val d→TAC (JK Tryz.prog Tryz.f223 [] [] (.tup [I (if d.length≤2 then val d else 0),.bool (decide (d.length≤2))])) s:=fun h1 h2 hl hx =>
  mg rfl h1 h2 (X9 _) (X5 _) (k1 hl _ hx).1 (k1 hl _ hx).2
 refine⟨fun a=>fin rfl rfl (by omega) ?_,fun a0=>⟨fun a=>⟨by omega,by omega,fin rfl rfl (by omega) ?_⟩,fun a1=>⟨fun a=>⟨⟨by omega,by omega⟩,by omega,by omega,by omega,fin rfl rfl (by omega) ?_⟩,fun a2=>mg rfl rfl rfl (X9 _) (X5 _) (k2 (by omega)).1 (k2 (by omega)).2⟩⟩⟩
 ·obtain rfl:d=[]:=ZBd.1 (by omega)
  rfl
 ·obtain⟨x,rfl⟩:=ZBk.1 (show d.length=1 by omega)
  simp[val]
 ·obtain⟨x,y,rfl⟩:∃x y,d=[x,y]:=by
   match d,a with
   | [x,y],_=>exact⟨x,y,rfl⟩
   | [],h=>exact absurd h (by simp)
   | [_],h=>exact absurd h (by simp)
   |_ :: _ :: _ :: _,h=>exact absurd h (by simp;omega)
  have h1:=h x (by simp);have h2:=h y (by simp);unfold Qk at h1 h2;simp only[List.getD_cons_zero,ZCe,val,M'];omega
theorem SX (a:Int):Fn Tryz.prog 240 [I a] (.bool false):=by
 refine Fq Tryz.call240 Tryz.func240 3 [] [] [] (by simp[KJ]) (Xk ?_);simp(maxSteps:=999999)only[P',↓X6,wA,↓reduceIte,reduceIte,reduceCtorEq,Y1,Y2,Y3,Y4,Y5,Y6,Y7,Y8,Y9,YA,zA,wN];exact Xp rfl rfl (X5 _) rfl
theorem WP (a b:Int):Fn Tryz.prog 225 [I a,I b] (I (a-b).sign):=by
 refine Fq Tryz.call225 Tryz.func225 7 [] [] [] (by simp[KJ]) (Xk ?_);simp(maxSteps:=999999)only[P',↓X6,wA,↓reduceIte,reduceIte,reduceCtorEq,Y1,Y2,Y3,Y4,Y5,Y6,Y7,Y8,Y9,YA,zA,wN];refine X2 (SX a) rfl ?_;simp only[↓X6,wA,↓reduceIte,reduceIte,reduceCtorEq,Y1,Y2,Y3,Y4,Y5,Y6,Y7,Y8,Y9,YA,zA,wN];refine X2 (SX b) rfl ?_;simp only[↓X6,wA,↓reduceIte,reduceIte,reduceCtorEq,Y1,Y2,Y3,Y4,Y5,Y6,Y7,Y8,Y9,YA,zA,wN];refine⟨fun h=>Xp rfl rfl (X9 _) ?_,fun h=>⟨fun h2=>Xp rfl rfl (X9 _) ?_,fun h2=>Xp rfl rfl (X9 _) ?_⟩⟩
 ·rw[n_ (by omega)];rfl
 ·rw[u_ (by omega)];rfl
 ·rw[show a-b=0 by omega];rfl
theorem je {a b:List Int}(ha:JG a)(hb:JG b)(hl:a.length=b.length){i:Nat}(hi:i<a.length)(he:a.drop (i+1)=b.drop (i+1)) (hne:a.getD i 0≠b.getD i 0) :
  (val a-val b).sign=(a.getD i 0-b.getD i 0).sign:=by
 rw[JN a i (by omega),JN b i (by omega),KP a i hi,KP b i (by omega),he];have h1:=Qe (QU ha i);have h2:=Qe (QU hb i);have h3:=Aa (QU ha i);have h4:=Aa (QU hb i);have e1:(a.take i).length=i:=by rw[o_];omega
 have e2:(b.take i).length=i:=by rw[o_];omega
 rw[e1]at h3;rw[e2]at h4;generalize val (a.take i)=p at *;generalize val (b.take i)=q at *;generalize val (b.drop (i+1))=r at *;generalize a.getD i 0=x at *;generalize b.getD i 0=y at *;have hp:=JI i;generalize pw i=P at *;have e:p+P*(x+1000000000*r)-(q+P*(y+1000000000*r))=(p-q)+P*(x-y):=by grind
 rw[e];rcases Int.lt_or_gt_of_ne hne with h |h
 ·rw[n_ (show x-y<0 by omega)]
  have:P*(x-y)≤P*(-1):=W_ (by omega) (by omega);exact n_ (by omega)
 ·rw[u_ (show 0<x-y by omega)]
  have:P*1≤P*(x-y):=W_ (by omega) (by omega);exact u_ (by omega)
theorem Eu {a b:List Int}(ha:AM a)(hb:AM b)(h:a.length<b.length):val a<val b:=by
 have h1:=Aa ha.1;have hne:b≠[]:=fun e=>by rw[e]at h;simp at h
 have h2:=Df hb hne;have h3:=CO (show a.length≤b.length-1 by omega);omega
theorem GP {a b:List Int}(hl:a.length=b.length){i:Nat}(hi:i<a.length)(he:a.drop (i+1)=b.drop (i+1)) (h:a.getD i 0=b.getD i 0):a.drop i=b.drop i:=by
 have hi2:i<b.length:=by omega
 rw[ZBT hi,ZBT hi2,he];rw[K',U_ hi,K',U_ hi2]at h;simp only[ZBH]at h;rw[h]
theorem DH (a b:List Int)(ha:AM a)(hb:AM b)(la:a.length<4611686018427387904):Fn Tryz.prog 189 [X8 a,X8 b] (I (val a-val b).sign):=by
 have hc:a.length≠b.length→Fn Tryz.prog 225 [I a.length,I b.length] (I (val a-val b).sign):=fun h=>by
  have e:((a.length:Int)-b.length).sign=(val a-val b).sign:=by
   rcases Nat.lt_or_gt_of_ne h with h' |h'
   ·have:=Eu ha hb h'
    rw[n_ (by omega),n_ (by omega)]
   ·have:=Eu hb ha h'
    rw[u_ (by omega),u_ (by omega)]
  rw[←e];exact WP _ _
 refine Fq Tryz.call189 Tryz.func189 6 [] [] [] (by simp[KJ]) (Xk ?_);simp(maxSteps:=999999)only[P',↓X6,wA,seval,zA,wN];refine⟨fun h=>X2 (hc h) rfl ?_,fun hl=>?_⟩
 ·simp only[↓X6,wA,seval,zA,wN]
  exact Xp rfl rfl (X9 _) rfl
 refine Xi (fun k:Nat=>⟨6,[],[X8 a,X8 b,.any,.any,I 0,I ((k:Int)-1)],[],[]⟩) (fun k=>k≤a.length∧a.drop k=b.drop k) (fun k=>k) a.length ⟨by omega,by rw[ZDA,hl,ZDA]⟩
  ?_ ?_
 ·have w0:Q_.wrap ((a.length:Int)-1)=(a.length:Int)-1:=by rw[M'];omega
  rw[w0];exact(ZS (by simp[zA,wN,Xm,X8,Dm,CH,QE,I]) rfl)
 rintro k ⟨hk,he⟩ next
 cases k with
 |zero =>
  refine Xk ?_;have e0:(0≤((0:Nat):Int)-1)=False:=Q' (by omega);have e1:((0:Int)≤0-1)=False:=Q' (by omega);simp only[e0,e1,↓X6,wA,seval,zA,wN];refine Xp rfl rfl (X9 _) ?_;rw[ZBf,ZBf]at he;rw[he,Int.sub_self];rfl
 |succ k =>
  have e1:((k+1:Nat):Int)-1=(k:Int):=by omega
  have w1:Q_.wrap ((k:Int)-1)=(k:Int)-1:=by rw[M'];omega
  have e2:((k:Int)<a.length)=True:=K_ (by omega);have e3:(k<a.length)=True:=K_ (by omega);have e4:(k<b.length)=True:=K_ (by omega);have hcm:a.getD k 0≠b.getD k 0→Fn Tryz.prog 225 [I (a.getD k 0),I (b.getD k 0)] (I (val a-val b).sign):=fun h=>by
   rw[je ha.1 hb.1 hl (by omega) he h];exact WP _ _
  refine Xk ?_;simp only[e1,w1,e3,e4,↓X6,wA,seval,zA,wN];refine⟨fun h=>X2 (hcm h) rfl ?_,fun h=>next k _ ⟨by omega,GP hl (by omega) he h⟩ (by omega) (ZS (by simp[zA,wN,Xm,X8,Dm,CH,QE,I]) rfl)⟩;simp only[↓X6,wA,seval,zA,wN];exact Xp rfl rfl (X9 _) rfl
theorem Gp (n:Int)(h:ZO n):Fn Tryz.prog 112 [I n] (zA n):=by
 obtain⟨R,hR⟩:∃R,R=zA n:=⟨_,rfl⟩
 have sR:A_ R:=hR▸XT _;unfold ZO at h;have c1:n<0→Fn Tryz.prog 181 [.bool (decide (n<0)),.int .u64 (ZAh.wrap (0-ZAh.wrap n))] R:=fun h1=>by
  have e:ZAh.wrap (0-ZAh.wrap n) = -n:=by rw[ZAY,ZAY];omega
  have e2:Z9 (decide (n<0)) (-n)=n:=by unfold Z9;rw[N_ (Y' h1)];omega
  have:=ZG (decide (n<0)) (-n) (by omega) (by omega);rw[e2]at this;rw[e,hR];exact this
 have c2:¬n<0→Fn Tryz.prog 181 [.bool (decide (n<0)),.int .u64 (ZAh.wrap n)] R:=fun h1=>by
  have e:ZAh.wrap n=n:=by rw[ZAY];omega
  have e2:Z9 (decide (n<0)) n=n:=by unfold Z9;rw[M_ (by simp;omega)]
  have:=ZG (decide (n<0)) n (by omega) (by omega);rw[e2]at this;rw[e,hR];exact this
 rw[←hR];refine Fq Tryz.call112 Tryz.func112 4 [] [] [] (by simp[KJ]) (Xk ?_);simp(maxSteps:=999999)only[P',↓X6,wA,seval,zA,wN];refine⟨fun h1=>X2 (c1 h1) rfl ?_,fun h1=>X2 (c2 h1) rfl ?_⟩
 ·simp only[hR,↓X6,wA,seval,zA,wN]
  exact Ql rfl Q8 rfl rfl rfl hR sR ⟨X' _,X' _,trivial⟩
 ·simp only[hR,↓X6,wA,seval,zA,wN]
  exact Ql rfl Q8 rfl rfl rfl hR sR ⟨X' _,X' _,trivial⟩
end
end Go.Ab.N
