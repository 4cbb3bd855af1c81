/- Contracts of functions, for arguments that fit. -/
import Derived.Test.YtefjhgcndhepeaaGreatAb4
import Derived.Test.YtefjhgcndhepeaaGreatRows
import Derived.KernelRfl
set_option linter.unusedSimpArgs false
set_option linter.unusedVariables false
open Nat renaming reducePow → Y1, reduceLT → Y2, reduceLeDiff → Y3, reduceEqDiff → Y4, reduceAdd → Y5, reduceMul → Y6, reduceSub → Y7, reduceBEq → Y8, reduceDiv → Y9, reduceMod → YA
namespace Go.Ab.N
open Go.Ab
open Classical
noncomputable section
def pw:Nat→Int
 | 0=>1
 | n+1=>1000000000*pw n
theorem JU:∀ n,0<pw n
 | 0=>by simp [pw]
 | n+1=>by have:=JU n; simp only [pw]; omega
theorem Fz (m n:Nat):pw (m+n)=pw m*pw n:=by
 induction m with
 | zero=>simp [pw]
 | succ m ih=>rw [show m+1+n=(m+n)+1 by omega]; simp only [pw]; rw [ih,Int.mul_assoc]
theorem CZ {m n:Nat} (h:m≤n):pw m≤pw n:=by
 obtain ⟨k,rfl⟩:=Nat.exists_eq_add_of_le h
 induction k with
 | zero=>exact Int.le_refl _
 | succ k ih =>
  have h1:=ih (by omega)
  have h2:=JU (m+k)
  rw [show m+(k+1)=(m+k)+1 by omega]
  simp only [pw]; omega
def val:List Int→Int
 | []=>0
 | d :: l=>d+1000000000*val l
def Q8 (d:Int):Prop:=0≤d∧d<1000000000
def Jq (l:List Int):Prop:=∀ d∈l,Q8 d
def A6 (l:List Int):Prop:=Jq l∧(l≠[]→l.getD (l.length - 1) 0≠0)
theorem C3:Jq []:=fun _ h=>by cases h
theorem KT {d:Int} {l:List Int}:Jq (d :: l)↔Q8 d∧Jq l:=by unfold Jq; simp
theorem Ii {l m:List Int}:Jq (l ++ m)↔Jq l∧Jq m:=by
 unfold Jq
 constructor
 ·exact fun h=>⟨fun d hd=>h d (List.mem_append_left _ hd),fun d hd=>h d (List.mem_append_right _ hd)⟩
 ·rintro ⟨h1,h2⟩ d hd
  rcases List.mem_append.1 hd with h | h
  ·exact h1 d h
  ·exact h2 d h
theorem Jw {l:List Int} (h:Jq l) (i:Nat):Q8 (l.getD i 0):=by
 by_cases hi:i<l.length
 ·exact h _ (QN hi)
 ·rw [List.getD_eq_getElem?_getD,List.getElem?_eq_none (by omega)]; exact ⟨by simp,by simp⟩
theorem QM {l:List Int} (h:Jq l) (n:Nat):Jq (l.take n):=fun d hd=>h d (List.mem_of_mem_take hd)
theorem N9 {l:List Int} (h:∀ i,i<l.length→Q8 (l.getD i 0)):Jq l:=by
 intro d hd
 obtain ⟨i,hi,rfl⟩:=List.getElem_of_mem hd
 have:=h i hi
 rwa [List.getD_eq_getElem?_getD,List.getElem?_eq_getElem hi] at this
theorem Q1 {l:List Int} (h:Jq l):0≤val l:=by
 induction l with
 | nil=>exact Int.le_refl 0
 | cons d l ih =>
  obtain ⟨h1,h2⟩:=KT.1 h
  have:=ih h2
  simp only [val]; unfold Q8 at h1; omega
theorem Zq {l:List Int} (h:Jq l):val l<pw l.length:=by
 induction l with
 | nil=>simp [val,pw]
 | cons d l ih =>
  obtain ⟨h1,h2⟩:=KT.1 h
  have:=ih h2
  simp only [val,List.length_cons,pw]; unfold Q8 at h1; omega
theorem Pj (l m:List Int):val (l ++ m)=val l+pw l.length*val m:=by
 induction l with
 | nil=>simp [val,pw]
 | cons d l ih =>
  simp only [List.cons_append,val,List.length_cons,pw]
  rw [ih,Int.mul_add,Int.mul_assoc]; omega
theorem Eh (l:List Int) (x:Int):val (l ++ [x])=val l+pw l.length*x:=by
 rw [Pj]; simp [val]
theorem Jp (l:List Int) (i:Nat) (h:i<l.length):val (l.take (i+1))=val (l.take i)+pw i*l.getD i 0:=by
 rw [Q5 l 0 i h,Eh,List.length_take,Nat.min_eq_left (by omega)]
theorem EP (n:Nat):val (List.replicate n 0)=0:=by
 induction n with
 | zero=>rfl
 | succ n ih=>simp [List.replicate_succ,val,ih]
theorem Cr {l:List Int} (h:A6 l) (hne:l≠[]):pw (l.length - 1)≤val l:=by
 have hl:=h.2 hne
 have hlen:0<l.length:=List.length_pos_iff.2 hne
 have e:=Jp l (l.length - 1) (by omega)
 rw [show l.length - 1+1=l.length by omega,List.take_length] at e
 have h1:=Q1 (QM h.1 (l.length - 1))
 have h2:=Jw h.1 (l.length - 1)
 have h3:=JU (l.length - 1)
 have h4:pw (l.length - 1)*1≤pw (l.length - 1)*l.getD (l.length - 1) 0:=Int.mul_le_mul_of_nonneg_left (by unfold Q8 at h2; omega) (by omega)
 omega
theorem IE:∀ {a b:List Int},Jq a→Jq b→a.length=b.length→val a=val b→a=b
 | [],[],_,_,_,_=>rfl
 | [],_ :: _,_,_,h,_=>by simp at h
 | _ :: _,[],_,_,h,_=>by simp at h
 | x :: a,y :: b,ha,hb,hl,hv=>by
  obtain ⟨h1,h2⟩:=KT.1 ha
  obtain ⟨h3,h4⟩:=KT.1 hb
  simp only [val] at hv
  unfold Q8 at h1 h3
  have hxy:x=y:=by omega
  have hv':val a=val b:=by omega
  rw [hxy,IE h2 h4 (by simpa using hl) hv']
theorem YE {a b:List Int} (ha:A6 a) (hb:A6 b) (h:val a=val b):a=b:=by
 have key:∀ {a b:List Int},A6 a→A6 b→val a=val b→a.length≤b.length→a=b:=by
  intro a b ha hb h hl
  by_cases e:a.length=b.length
  ·exact IE ha.1 hb.1 e h
  ·exfalso
   have hne:b≠[]:=fun e'=>by
    have:b.length=0:=by rw [e']; rfl
    omega
   have h1:=Cr hb hne
   have h2:=Zq ha.1
   have h3:=CZ (show a.length≤b.length - 1 by omega)
   omega
 rcases Nat.le_total a.length b.length with hl | hl
 ·exact key ha hb h hl
 ·exact (key hb ha h.symm hl).symm
def Xb (n:Nat):List Int:=if h:n=0 then [] else ((n % 1000000000:Nat):Int) :: Xb (n / 1000000000)
termination_by n
decreasing_by omega
theorem Q2:Xb 0=[]:=by rw [Xb]; simp
theorem AK {n:Nat} (h:n≠0):Xb n=((n % 1000000000:Nat):Int) :: Xb (n / 1000000000):=by rw [Xb]; simp [h]
theorem XG (n:Nat):val (Xb n)=n:=by
 induction n using Nat.strongRecOn with
 | ind n ih =>
  by_cases h:n=0
  ·subst h; rw [Q2]; rfl
  ·rw [AK h]
   simp only [val]
   rw [ih (n / 1000000000) (by omega)]; omega
theorem XN (n:Nat):Jq (Xb n):=by
 induction n using Nat.strongRecOn with
 | ind n ih =>
  by_cases h:n=0
  ·subst h; rw [Q2]; exact C3
  ·rw [AK h]
   exact KT.2 ⟨⟨by omega,by omega⟩,ih _ (by omega)⟩
theorem Ij {n:Nat} (h:n≠0):Xb n≠[]:=by rw [AK h]; simp
theorem OC {n:Nat}:Xb n=[]↔n=0:=⟨fun h=>Classical.byContradiction fun e=>Ij e h,fun h=>by rw [h]; exact Q2⟩
theorem XU (n:Nat):A6 (Xb n):=by
 refine ⟨XN n,?_⟩
 induction n using Nat.strongRecOn with
 | ind n ih =>
  intro hne
  by_cases h:n=0
  ·subst h; exact absurd Q2 hne
  ·rw [AK h]
   by_cases h2:n / 1000000000=0
   ·rw [h2,Q2]; simp; omega
   ·have hn:=Ij h2
    have:=ih (n / 1000000000) (by omega) hn
    obtain ⟨k,hk⟩:∃ k,(Xb (n / 1000000000)).length=k+1:=⟨(Xb (n / 1000000000)).length - 1,by have:=List.length_pos_iff.2 hn; omega⟩
    simp only [List.length_cons,hk,Nat.add_sub_cancel] at this ⊢
    simpa using this
theorem AG {l:List Int} (h:A6 l):Xb (val l).toNat=l:=by
 refine YE (XU _) h ?_
 rw [XG]
 have:=Q1 h.1
 omega
theorem ow {l:List Int} (h:Jq l):((val l).toNat:Int)=val l:=Int.toNat_of_nonneg (Q1 h)
def Ah (l:List Int):Nat→Nat
 | 0=>0
 | n+1=>if l.getD n 0=0 then Ah l n else n+1
theorem Wy (l:List Int):∀ n,Ah l n≤n
 | 0=>Nat.le_refl _
 | n+1=>by
  simp only [Ah]
  split
  ·exact Nat.le_succ_of_le (Wy l n)
  ·exact Nat.le_refl _
theorem T5 {l:List Int}:∀ n,n≤l.length→val (l.take (Ah l n))=val (l.take n)
 | 0,_=>rfl
 | n+1,h=>by
  simp only [Ah]
  split
  ·rename_i e
   rw [T5 n (by omega),Jp l n h,e]; simp
  ·rfl
theorem V9 {l:List Int} (h:Jq l) (n:Nat) (hn:n≤l.length):A6 (l.take (Ah l n)):=by
 refine ⟨QM h _,fun hne=>?_⟩
 induction n with
 | zero=>simp [Ah] at hne
 | succ n ih =>
  simp only [Ah] at hne ⊢
  split
  ·rename_i e; rw [if_pos e] at hne; exact ih (by omega) hne
  ·rename_i e
   rw [List.length_take,Nat.min_eq_left hn,Nat.add_sub_cancel,Bs l 0 n (n+1) (by omega)]
   exact e
theorem bY {l:List Int} (h:Jq l):l.take (Ah l l.length)=Xb (val l).toNat:=by
 have h1:=V9 h l.length (Nat.le_refl _)
 rw [← AG h1,T5 _ (Nat.le_refl _),List.take_length]
def sm (f:Nat→Int):Nat→Int
 | 0=>0
 | n+1=>sm f n+pw n*f n
def AH (f:Nat→Int) (n:Nat):List Int:=(List.range n).map f
theorem Qf (f:Nat→Int) (n:Nat):(AH f n).length=n:=by simp [AH]
theorem Eg (f:Nat→Int) (n:Nat):AH f (n+1)=AH f n ++ [f n]:=by simp [AH,List.range_succ]
theorem Cj (f:Nat→Int) (n i:Nat) (h:i<n):(AH f n).getD i 0=f i:=by simp [AH,List.getD_eq_getElem?_getD,h]
theorem KJ {f f':Nat→Int} {n:Nat} (h:∀ k,k<n→f k=f' k):AH f n=AH f' n:=List.map_congr_left fun k hk=>h k (by simpa using hk)
theorem GN (f:Nat→Int):∀ n,val (AH f n)=sm f n
 | 0=>rfl
 | n+1=>by rw [Eg,Eh,Qf,GN f n]; rfl
theorem Wr (l:List Int):∀ n,n≤l.length→sm (fun i=>l.getD i 0) n=val (l.take n)
 | 0,_=>rfl
 | n+1,h=>by rw [Jp l n h,← Wr l n (by omega)]; rfl
theorem rT (l:List Int) (n:Nat) (h:l.length≤n):sm (fun i=>l.getD i 0) n=val l:=by
 obtain ⟨k,rfl⟩:=Nat.exists_eq_add_of_le h
 induction k with
 | zero=>rw [Nat.add_zero,Wr l _ (Nat.le_refl _),List.take_length]
 | succ k ih =>
  rw [show l.length+(k+1)=(l.length+k)+1 by omega]
  simp only [sm]
  rw [ih (by omega)]
  have:l.getD (l.length+k) 0=0:=by rw [List.getD_eq_getElem?_getD,List.getElem?_eq_none (by omega)]; rfl
  rw [this]; simp
theorem CO {f:Nat→Int} {n:Nat} (h:∀ i,i<n→Q8 (f i)):Jq (AH f n):=by
 refine N9 fun i hi=>?_
 rw [Qf] at hi
 rw [Cj _ _ _ hi]; exact h i hi
def Qj (a b:Nat→Int):Nat→Int
 | 0=>0
 | i+1=>if 1000000000≤a i+b i+Qj a b i then 1 else 0
def Ap (a b:Nat→Int) (i:Nat):Int:=if 1000000000≤a i+b i+Qj a b i then a i+b i+Qj a b i - 1000000000 else a i+b i+Qj a b i
theorem Dx (a b:Nat→Int):∀ i,Qj a b i=0∨Qj a b i=1
 | 0=>.inl rfl
 | i+1=>by simp only [Qj]; split <;> simp
theorem Pt {a b:Nat→Int} {i:Nat} (ha:Q8 (a i)) (hb:Q8 (b i)):Q8 (Ap a b i):=by
 have:=Dx a b i
 unfold Q8 at *
 unfold Ap
 split <;> omega
theorem Of (a b:Nat→Int):∀ n,sm (Ap a b) n+pw n*Qj a b n=sm a n+sm b n
 | 0=>by simp [sm,Qj]
 | n+1=>by
  have ih:=Of a b n
  have e:Ap a b n+1000000000*Qj a b (n+1)=a n+b n+Qj a b n:=by
   simp only [Ap,Qj]
   split <;> omega
  simp only [sm,pw]
  have:pw n*(Ap a b n+1000000000*Qj a b (n+1))=pw n*(a n+b n+Qj a b n):=by rw [e]
  grind
def JR (a b:Nat→Int):Nat→Int
 | 0=>0
 | i+1=>if a i - b i - JR a b i<0 then 1 else 0
def Ba (a b:Nat→Int) (i:Nat):Int:=if a i - b i - JR a b i<0 then a i - b i - JR a b i+1000000000 else a i - b i - JR a b i
theorem GI (a b:Nat→Int):∀ i,JR a b i=0∨JR a b i=1
 | 0=>.inl rfl
 | i+1=>by simp only [JR]; split <;> simp
theorem T0 {a b:Nat→Int} {i:Nat} (ha:Q8 (a i)) (hb:Q8 (b i)):Q8 (Ba a b i):=by
 have:=GI a b i
 unfold Q8 at *
 unfold Ba
 split <;> omega
theorem Pc (a b:Nat→Int):∀ n,sm (Ba a b) n - pw n*JR a b n=sm a n - sm b n
 | 0=>by simp [sm,JR]
 | n+1=>by
  have ih:=Pc a b n
  have e:Ba a b n - 1000000000*JR a b (n+1)=a n - b n - JR a b n:=by
   simp only [Ba,JR]
   split <;> omega
  simp only [sm,pw]
  have:pw n*(Ba a b n - 1000000000*JR a b (n+1))=pw n*(a n - b n - JR a b n):=by rw [e]
  grind
theorem pz {f:Nat→Int}:∀ {n:Nat},(∀ i,i<n→Q8 (f i))→0≤sm f n∧sm f n<pw n
 | 0,_=>by simp [sm,pw]
 | n+1,h=>by
  obtain ⟨h1,h2⟩:=pz (n:=n) fun i hi=>h i (by omega)
  have h3:=h n (by omega)
  have h4:=JU n
  unfold Q8 at h3
  have h5:pw n*f n≤pw n*999999999:=Int.mul_le_mul_of_nonneg_left (by omega) (by omega)
  have h6:0≤pw n*f n:=Int.mul_nonneg (by omega) h3.1
  simp only [sm,pw]; omega
theorem Wt {a b:Nat→Int} {n:Nat} (ha:∀ i,i<n→Q8 (a i)) (hb:∀ i,i<n→Q8 (b i)) (h:sm b n≤sm a n):JR a b n=0:=by
 have h1:=Pc a b n
 have h2:=(pz (f:=Ba a b) (n:=n) fun i hi=>T0 (ha i hi) (hb i hi)).2
 rcases GI a b n with e | e
 ·exact e
 ·rw [e] at h1; omega
theorem QB (l:List Int) (i j:Nat) (x:Int) (hi:i<l.length):(l.set i x).getD j 0=if j=i then x else l.getD j 0:=by
 simp only [List.getD_eq_getElem?_getD,List.getElem?_set]
 by_cases h:i=j
 ·subst h; simp [hi]
 ·simp [h,Ne.symm h]
theorem Cc:∀ (l:List Int) (i:Nat) (x:Int),i<l.length→val (l.set i x)=val l+pw i*(x - l.getD i 0)
 | [],_,_,h=>by simp at h
 | d :: l,0,x,_=>by simp [val,pw]; omega
 | d :: l,i+1,x,h=>by
  have ih:=Cc l i x (by simpa using h)
  simp only [List.set_cons_succ,val,pw,List.getD_cons_succ]
  rw [ih,Int.mul_add,Int.mul_assoc]; omega
theorem Et {l:List Int} (h:Jq l) (i:Nat) {x:Int} (hx:Q8 x):Jq (l.set i x):=fun d hd=>by
 rcases List.mem_or_eq_of_mem_set hd with e | e
 ·exact h d e
 ·rw [e]; exact hx
theorem BA {x y:Int} (hx:Q8 x) (hy:Q8 y):0≤x*y∧x*y≤999999998000000001:=by
 unfold Q8 at hx hy
 have h1:0≤x*y:=Int.mul_nonneg hx.1 hy.1
 have h2:x*y≤999999999*y:=Int.mul_le_mul_of_nonneg_right (by omega) hy.1
 omega
theorem Kp (l:List Int) (i:Nat) (h:i<l.length):val (l.drop i)=l.getD i 0+1000000000*val (l.drop (i+1)):=by
 rw [List.drop_eq_getElem_cons h]
 simp only [val]
 rw [List.getD_eq_getElem?_getD,List.getElem?_eq_getElem h]; rfl
theorem Jv (l:List Int) (i:Nat) (h:i≤l.length):val l=val (l.take i)+pw i*val (l.drop i):=by
 conv=>lhs; rw [← List.take_append_drop i l]
 rw [Pj,List.length_take,Nat.min_eq_left h]
def Kz (a:Nat→Int) (k:Int):Nat→Int
 | 0=>0
 | i+1=>(a i*k+Kz a k i) / 1000000000
def Fv (a:Nat→Int) (k:Int) (i:Nat):Int:=(a i*k+Kz a k i) % 1000000000
theorem Cy {a:Nat→Int} {k:Int} (ha:∀ i,Q8 (a i)) (hk:Q8 k):∀ i,Q8 (Kz a k i)
 | 0=>⟨by simp [Kz],by simp [Kz]⟩
 | i+1=>by
  have h1:=Cy ha hk i
  have h2:=BA (ha i) hk
  simp only [Kz]; unfold Q8 at *; omega
theorem iq {a:Nat→Int} {k:Int} (ha:∀ i,Q8 (a i)) (hk:Q8 k) (i:Nat):Q8 (Fv a k i):=by
 unfold Fv Q8; omega
theorem W0 (a:Nat→Int) (k:Int):∀ n,sm (Fv a k) n+pw n*Kz a k n=sm a n*k
 | 0=>by simp [sm,Kz]
 | n+1=>by
  have ih:=W0 a k n
  have e:Fv a k n+1000000000*Kz a k (n+1)=a n*k+Kz a k n:=by
   simp only [Fv,Kz]; omega
  have e2:pw n*(Fv a k n+1000000000*Kz a k (n+1))=pw n*(a n*k+Kz a k n):=by rw [e]
  simp only [sm,pw]
  grind
def JY (a:List Int) (b:Int) (i:Nat):Int:=val (a.drop i) % b
def Ae (a:List Int) (b:Int) (i:Nat):Int:=(JY a b (i+1)*1000000000+a.getD i 0) / b
theorem Hh (a:List Int) (b:Int) (i:Nat) (h:i<a.length):JY a b i=(JY a b (i+1)*1000000000+a.getD i 0) % b:=by
 unfold JY
 rw [Kp a i h]
 rw [Int.add_comm,Int.mul_comm,Int.add_emod,Int.mul_emod]
 conv=>rhs; rw [Int.add_emod,Int.mul_emod,Int.emod_emod_of_dvd _ (Int.dvd_refl b)]
theorem LQ (a:List Int) (b:Int):JY a b a.length=0:=by unfold JY; simp [val]
theorem DY {a:List Int} {b:Int} (ha:Jq a) (hb:0<b) (i:Nat):Q8 (Ae a b i):=by
 have h1:=Int.emod_nonneg (val (a.drop (i+1))) (show b≠0 by omega)
 have h2:=Int.emod_lt_of_pos (val (a.drop (i+1))) hb
 have h3:=Jw ha i
 unfold Q8 at *
 unfold Ae JY
 refine ⟨Int.ediv_nonneg (by omega) (by omega),Int.ediv_lt_of_lt_mul hb ?_⟩
 omega
theorem Wi {a:List Int} {b:Int} (hb:0<b):∀ i,i≤a.length→val (a.drop (a.length - i))=b*val ((AH (Ae a b) a.length).drop (a.length - i))+JY a b (a.length - i)
 | 0,_=>by
  have e:(AH (Ae a b) a.length).drop a.length=[]:=by rw [List.drop_eq_nil_iff,Qf]; exact Nat.le_refl _
  simp [e,LQ,val]
 | i+1,h=>by
  have ih:=Wi (a:=a) hb i (by omega)
  obtain ⟨k,hk⟩:∃ k,a.length - (i+1)=k:=⟨_,rfl⟩
  have hk1:a.length - i=k+1:=by omega
  rw [hk1] at ih
  rw [hk]
  rw [Kp a k (by omega),Kp (AH (Ae a b) a.length) k (by rw [Qf]; omega),Cj _ _ _ (show k<a.length by omega)]
  have e:=Int.mul_ediv_add_emod (JY a b (k+1)*1000000000+a.getD k 0) b
  have e2:=Hh a b k (by omega)
  have e3:Ae a b k=(JY a b (k+1)*1000000000+a.getD k 0) / b:=rfl
  rw [← e3,← e2] at e
  grind
theorem OY {a:List Int} {b:Int} (hb:0<b):val a=b*val (AH (Ae a b) a.length)+JY a b 0:=by
 have:=Wi (a:=a) hb a.length (Nat.le_refl _)
 simpa using this
def zA (z:Int):AV:=.agg [.bool (decide (z<0)),X8 (Xb z.natAbs)]
theorem XL (z:Int):Settled (zA z):=Qm (by simp [X7,X3])
theorem pg:(!(true == false))=true:=Go.Ab.nrfl rfl
theorem pf:(!(false == true))=true:=Go.Ab.nrfl rfl
theorem ph:(!(true == true))=false:=Go.Ab.nrfl rfl
theorem pc:(!(false == false))=false:=Go.Ab.nrfl rfl
set_option linter.defProp false in
def wN:=And.intro pg (And.intro pf (And.intro ph pc))
def KD (neg:Bool) (v:Int):Int:=if neg=true then -v else v
theorem digs_len_zero {n:Nat}:(Xb n).length=0↔n=0:=by rw [List.length_eq_zero_iff,OC]
theorem pi {l:List Int} (h:Jq l) (neg:Bool):zA (KD neg (val l))=.agg [.bool (neg && decide (Ah l l.length≠0)),X8 (l.take (Ah l l.length))]:=by
 have h0:=Q1 h
 have e1:(KD neg (val l)).natAbs=(val l).toNat:=by unfold KD; split <;> omega
 have e2:=bY h
 have hle:=Wy l l.length
 have e3:Ah l l.length=0↔val l=0:=by
  have h1:(l.take (Ah l l.length)).length=Ah l l.length:=by rw [List.length_take,Nat.min_eq_left hle]
  rw [← h1,e2,digs_len_zero]; omega
 unfold zA
 rw [e1,e2]
 congr 3
 unfold KD
 have h0':¬ val l<0:=by omega
 cases neg
 ·simp [h0']
 ·have:-val l<0↔¬ Ah l l.length=0:=by rw [e3]; omega
  simp only [if_true,Bool.true_and,decide_eq_decide]
  exact this
theorem La {d:Nat} (h0:d≠0) (h:d<1000000000):Xb d=[(d:Int)]:=by
 rw [AK h0,show d / 1000000000=0 by omega,Q2,show d % 1000000000=d by omega]
theorem Rb {d:Nat} (h0:1000000000≤d) (h:d<1000000000000000000):Xb d=[((d % 1000000000:Nat):Int),((d / 1000000000:Nat):Int)]:=by
 rw [AK (by omega),La (by omega) (by omega)]
theorem Ud {d:Nat} (h0:1000000000000000000≤d) (h:d<18446744073709551616) :
  Xb d=[((d % 1000000000:Nat):Int),((d / 1000000000 % 1000000000:Nat):Int),((d / 1000000000 / 1000000000:Nat):Int)]:=by
 rw [AK (by omega),Rb (by omega) (by omega)]
def dg (l:List Int):Nat→Int:=fun i=>l.getD i 0
theorem Qe {l:List Int} (h:Jq l) (i:Nat):Q8 (dg l i):=Jw h i
theorem H4 {l:List Int} {i:Nat} (h:l.length≤i):dg l i=0:=by unfold dg; rw [List.getD_eq_getElem?_getD,List.getElem?_eq_none h]; rfl
theorem Ed (l:List Int) (n:Nat) (h:l.length≤n):sm (dg l) n=val l:=rT l n h
def ZT (a b:List Int) (n:Nat):List Int:=AH (Ap (dg a) (dg b)) n ++ [Qj (dg a) (dg b) n]
theorem NN (a b:List Int) (n:Nat) (ha:a.length≤n) (hb:b.length≤n):val (ZT a b n)=val a+val b:=by
 unfold ZT
 rw [Eh,Qf,GN,Of,Ed a n ha,Ed b n hb]
theorem NM {a b:List Int} (ha:Jq a) (hb:Jq b) (n:Nat):Jq (ZT a b n):=by
 unfold ZT
 refine Ii.2 ⟨CO fun i _=>Pt (Qe ha i) (Qe hb i),KT.2 ⟨?_,C3⟩⟩
 have:=Dx (dg a) (dg b) n
 unfold Q8; omega
theorem EE (a b:List Int) (n:Nat):(ZT a b n).length=n+1:=by simp [ZT,Qf]
def Zn (a b:List Int):List Int:=AH (Ba (dg a) (dg b)) a.length
theorem BE {a b:List Int} (ha:Jq a) (hb:Jq b) (hl:b.length≤a.length) (h:val b≤val a):val (Zn a b)=val a - val b:=by
 unfold Zn
 have e:=Wt (n:=a.length) (fun i _=>Qe ha i) (fun i _=>Qe hb i) (by rw [Ed b _ hl,Ed a _ (Nat.le_refl _)]; exact h)
 have e2:=Pc (dg a) (dg b) a.length
 rw [e,Ed a _ (Nat.le_refl _),Ed b _ hl] at e2
 rw [GN]; omega
theorem BD {a b:List Int} (ha:Jq a) (hb:Jq b):Jq (Zn a b):=CO fun i _=>T0 (Qe ha i) (Qe hb i)
def Je (a b:List Int) (i:Nat):List Int:=AH (fun j=>if j<i then Ba (dg a) (dg b) j else if j=i then dg a j - JR (dg a) (dg b) i else dg a j) a.length
theorem jr (l:List Int):AH (dg l) l.length=l:=by
 refine List.ext_getElem (by simp [AH]) fun i h1 h2=>?_
 simp [AH,dg,List.getD_eq_getElem?_getD,h2]
theorem S1 (a b:List Int):Je a b 0=a:=by
 unfold Je
 conv=>rhs; rw [← jr a]
 refine KJ fun k _=>?_
 rw [if_neg (by omega)]
 split
 ·simp [JR]
 ·rfl
theorem Uz (a b:List Int):Je a b a.length=Zn a b:=KJ fun k hk=>by rw [if_pos hk]
theorem AZ (f:Nat→Int) (n k:Nat) (x:Int) (h:k<n):(AH f n).set k x=AH (fun q=>if q=k then x else f q) n:=by
 refine List.ext_getElem (by simp [AH]) fun q h1 h2=>?_
 have hq:q<n:=by simpa [Qf] using h2
 by_cases e:k=q
 ·subst e; simp [AH]
 ·simp [AH,List.getElem_set,e,Ne.symm e]
end
end Go.Ab.N
namespace Go.Ab.N
open Go Go.Ab
open Classical
noncomputable section
theorem XW {l m:List AV} (h:WeakL l m):Weak (.agg l) (.agg m):=fun c v hv=>by
 cases hv with
 | agg vs _ hs hr =>
  have:=(jP h) c (.tuple vs) (.tup vs _ hs hr)
  cases this with
  | tup _ _ hs' hr'=>exact .agg vs m hs' hr'
theorem Qo (f:Nat→AV) (t:Bool):Weak (.sl 0 0 f t) (X8 []):=Ak rfl (Nat.le_refl _) fun j hj=>by exact absurd hj (Nat.not_lt_zero j)
theorem A0 {n:Nat} {L:List AV} {l:List Int} {t:Bool} (hn:n=l.length) (h:L=l.map I):Weak (.sl n n (Xo L) t) (X8 l):=by
 subst hn; subst h; exact GR l t
theorem N5 (L:List AV):∀ n off,off+n=L.length→Qp (Xo L) off 0 n=L.drop off:=by
 have key:∀ n off j,off+j+n=L.length→Qp (Xo L) off j n=L.drop (off+j):=by
  intro n
  induction n with
  | zero=>intro off j h; rw [List.drop_eq_nil_iff.2 (by omega)]; rfl
  | succ n ih =>
   intro off j h
   rw [List.drop_eq_getElem_cons (by omega)]
   simp only [Qp]
   rw [ih off (j+1) (by omega)]
   congr 1
   show L.getD (off+j) .any=_
   rw [List.getD_eq_getElem?_getD,List.getElem?_eq_getElem (by omega)]; rfl
 intro n off h
 rw [key n off 0 (by omega)]; rfl
theorem rO {P:Program} {fn:Func} {str hcs:List Nat} {r:AV} {s:AS} {t u id ver n:Nat} {L:List AV} (hr:fn.results=#[.cell t u]) (hk:C4 P u=some (some n)) (hs:s.get t=.ref id ver 0)
  (ho:s.h[id]?=some (.row ver n (Xo L))) (hn:L.length=n) (h:JH s.h (.agg L) r):RetOk (QI P fn str hcs r) s:=by
 subst hn
 refine BN (v:=.agg L) hr ?_ h
 rw [hs,On,hk,Fd,ho,Fe,rJ,N5 L _ _ (by omega)]
 simp [Qk]
theorem Qi {P:Program} {fn:Func} {str hcs:List Nat} {r:AV} {s:AS} {t u id ver n:Nat} {L M:List AV} (hr:fn.results=#[.cell t u]) (hk:C4 P u=some (some n)) (hs:s.get t=.ref id ver 0)
  (ho:s.h[id]?=some (.row ver n (Xo L))) (hn:L.length=n) (e:r=.agg M) (hset:Settled r) (h:WeakL L M):RetOk (QI P fn str hcs r) s:=by
 refine rO hr hk hs ho hn ?_
 subst e
 exact Xu hset (XW h)
end
end Go.Ab.N
namespace Go.Ab.N
open Go Go.RowKit Go.Proofs
theorem uB:C4 Tryz.prog 3=some none:=by kernel_rfl
theorem rW:Zh Tryz.prog 3=some 1:=by kernel_rfl
theorem uz:ar Tryz.prog 3=some .i64:=by kernel_rfl
theorem so:QO Tryz.prog 3=some [.int .i64 0]:=by kernel_rfl
theorem uC:C4 Tryz.prog 4=some none:=by kernel_rfl
theorem rX:Zh Tryz.prog 4=some 1:=by kernel_rfl
theorem qz:IZ Tryz.prog 4=true:=by kernel_rfl
theorem sq:QO Tryz.prog 4=some [.bool false]:=by kernel_rfl
theorem tK:C4 Tryz.prog 22=some none:=by kernel_rfl
theorem oa:Zh Tryz.prog 22=some 1:=by kernel_rfl
theorem oY:B8 Tryz.prog 22=some (3,1,8):=by kernel_rfl
theorem tL:C4 Tryz.prog 23=some none:=by kernel_rfl
theorem tq:B8 Tryz.prog 23=some (110,2,16):=by kernel_rfl
theorem tM:C4 Tryz.prog 24=some none:=by kernel_rfl
theorem oc:Zh Tryz.prog 24=some 1:=by kernel_rfl
theorem tr:B8 Tryz.prog 24=some (4,1,1):=by kernel_rfl
theorem XX:C4 Tryz.prog 26=some (some 2):=by kernel_rfl
theorem od:Zh Tryz.prog 26=some 2:=by kernel_rfl
theorem mg:Cl Tryz.prog 26 0=some (0,1,none):=by kernel_rfl
theorem kV:QS Tryz.prog 26 0=some (0,1):=by kernel_rfl
theorem mh:Cl Tryz.prog 26 1=some (1,1,none):=by kernel_rfl
theorem kW:QS Tryz.prog 26 1=some (1,1):=by kernel_rfl
theorem sZ:Bd Tryz.prog 26=true:=by kernel_rfl
theorem oF:QO Tryz.prog 26=some [.bool false,.sl 0 0 (fun _=>.any) true]:=by kernel_rfl
theorem Qd:C4 Tryz.prog 28=some (some 4):=by kernel_rfl
theorem oe:Zh Tryz.prog 28=some 4:=by kernel_rfl
theorem mi:Cl Tryz.prog 28 0=some (0,2,some 2):=by kernel_rfl
theorem kX:QS Tryz.prog 28 0=some (0,2):=by kernel_rfl
theorem mj:Cl Tryz.prog 28 1=some (2,2,some 2):=by kernel_rfl
theorem kY:QS Tryz.prog 28 1=some (2,2):=by kernel_rfl
theorem t8:Bd Tryz.prog 28=true:=by kernel_rfl
theorem oG:QO Tryz.prog 28=some [.bool false,.sl 0 0 (fun _=>.any) true,.bool false,.sl 0 0 (fun _=>.any) true]:=by kernel_rfl
theorem Gc:C4 Tryz.prog 30=some (some 25):=by kernel_rfl
theorem og:Zh Tryz.prog 30=some 25:=by kernel_rfl
theorem kZ:QS Tryz.prog 30 0=some (0,1):=by kernel_rfl
theorem ml:Cl Tryz.prog 30 1=some (1,1,none):=by kernel_rfl
theorem l5:QS Tryz.prog 30 1=some (1,1):=by kernel_rfl
theorem mm:Cl Tryz.prog 30 2=some (2,1,none):=by kernel_rfl
theorem l6:QS Tryz.prog 30 2=some (2,1):=by kernel_rfl
theorem mn:Cl Tryz.prog 30 3=some (3,1,none):=by kernel_rfl
theorem l7:QS Tryz.prog 30 3=some (3,1):=by kernel_rfl
theorem mo:Cl Tryz.prog 30 4=some (4,1,none):=by kernel_rfl
theorem l8:QS Tryz.prog 30 4=some (4,1):=by kernel_rfl
theorem mq:Cl Tryz.prog 30 5=some (5,4,some 4):=by kernel_rfl
theorem l9:QS Tryz.prog 30 5=some (5,4):=by kernel_rfl
theorem mr:Cl Tryz.prog 30 6=some (9,4,some 4):=by kernel_rfl
theorem lc:QS Tryz.prog 30 6=some (9,4):=by kernel_rfl
theorem ms:Cl Tryz.prog 30 7=some (13,4,some 4):=by kernel_rfl
theorem ld:QS Tryz.prog 30 7=some (13,4):=by kernel_rfl
theorem mu:Cl Tryz.prog 30 8=some (17,4,some 4):=by kernel_rfl
theorem lf:QS Tryz.prog 30 8=some (17,4):=by kernel_rfl
theorem mv:Cl Tryz.prog 30 9=some (21,4,some 4):=by kernel_rfl
theorem lg:QS Tryz.prog 30 9=some (21,4):=by kernel_rfl
theorem tc:Bd Tryz.prog 30=true:=by kernel_rfl
theorem oH:QO Tryz.prog 30=some [.int .i64 0,.int .i64 0,.sl 0 0 (fun _=>.any) true,.sl 0 0 (fun _=>.any) true,.sl 0 0 (fun _=>.any) true,.bool false,.sl 0 0 (fun _=>.any) true,.bool false,.sl 0 0 (fun _=>.any) true,.bool false,.sl 0 0 (fun _=>.any) true,.bool false,.sl 0 0 (fun _=>.any) true,.bool false,.sl 0 0 (fun _=>.any) true,.bool false,.sl 0 0 (fun _=>.any) true,.bool false,.sl 0 0 (fun _=>.any) true,.bool false,.sl 0 0 (fun _=>.any) true,.bool false,.sl 0 0 (fun _=>.any) true,.bool false,.sl 0 0 (fun _=>.any) true]:=by kernel_rfl
theorem tv:B8 Tryz.prog 35=some (28,4,64):=by kernel_rfl
theorem Dl:C4 Tryz.prog 48=some (some 8):=by kernel_rfl
theorem oh:Zh Tryz.prog 48=some 8:=by kernel_rfl
theorem mw:Cl Tryz.prog 48 0=some (0,4,some 4):=by kernel_rfl
theorem lh:QS Tryz.prog 48 0=some (0,4):=by kernel_rfl
theorem my:Cl Tryz.prog 48 1=some (4,4,some 4):=by kernel_rfl
theorem li:QS Tryz.prog 48 1=some (4,4):=by kernel_rfl
theorem td:Bd Tryz.prog 48=true:=by kernel_rfl
theorem oI:QO Tryz.prog 48=some [.bool false,.sl 0 0 (fun _=>.any) true,.bool false,.sl 0 0 (fun _=>.any) true,.bool false,.sl 0 0 (fun _=>.any) true,.bool false,.sl 0 0 (fun _=>.any) true]:=by kernel_rfl
theorem Jr:C4 Tryz.prog 50=some (some 8):=by kernel_rfl
theorem ol:Zh Tryz.prog 50=some 8:=by kernel_rfl
theorem mz:Cl Tryz.prog 50 0=some (0,4,some 4):=by kernel_rfl
theorem lj:QS Tryz.prog 50 0=some (0,4):=by kernel_rfl
theorem mA:Cl Tryz.prog 50 1=some (4,4,some 4):=by kernel_rfl
theorem lk:QS Tryz.prog 50 1=some (4,4):=by kernel_rfl
theorem te:Bd Tryz.prog 50=true:=by kernel_rfl
theorem oJ:QO Tryz.prog 50=some [.bool false,.sl 0 0 (fun _=>.any) true,.bool false,.sl 0 0 (fun _=>.any) true,.bool false,.sl 0 0 (fun _=>.any) true,.bool false,.sl 0 0 (fun _=>.any) true]:=by kernel_rfl
theorem p8:C4 Tryz.prog 52=some (some 29):=by kernel_rfl
theorem oo:Zh Tryz.prog 52=some 29:=by kernel_rfl
theorem mB:Cl Tryz.prog 52 0=some (0,1,none):=by kernel_rfl
theorem mC:Cl Tryz.prog 52 1=some (1,1,none):=by kernel_rfl
theorem ll:QS Tryz.prog 52 1=some (1,1):=by kernel_rfl
theorem mD:Cl Tryz.prog 52 2=some (2,1,none):=by kernel_rfl
theorem lm:QS Tryz.prog 52 2=some (2,1):=by kernel_rfl
theorem mE:Cl Tryz.prog 52 3=some (3,1,none):=by kernel_rfl
theorem ln:QS Tryz.prog 52 3=some (3,1):=by kernel_rfl
theorem mF:Cl Tryz.prog 52 4=some (4,1,none):=by kernel_rfl
theorem ls:QS Tryz.prog 52 4=some (4,1):=by kernel_rfl
theorem mG:Cl Tryz.prog 52 5=some (5,8,some 8):=by kernel_rfl
theorem lu:QS Tryz.prog 52 5=some (5,8):=by kernel_rfl
theorem mH:Cl Tryz.prog 52 6=some (13,8,some 8):=by kernel_rfl
theorem mI:Cl Tryz.prog 52 7=some (21,8,some 8):=by kernel_rfl
theorem tf:Bd Tryz.prog 52=true:=by kernel_rfl
theorem oK:QO Tryz.prog 52=some [.int .i64 0,.int .i64 0,.int .i64 0,.int .i64 0,.int .i64 0,.bool false,.sl 0 0 (fun _=>.any) true,.bool false,.sl 0 0 (fun _=>.any) true,.bool false,.sl 0 0 (fun _=>.any) true,.bool false,.sl 0 0 (fun _=>.any) true,.bool false,.sl 0 0 (fun _=>.any) true,.bool false,.sl 0 0 (fun _=>.any) true,.bool false,.sl 0 0 (fun _=>.any) true,.bool false,.sl 0 0 (fun _=>.any) true,.bool false,.sl 0 0 (fun _=>.any) true,.bool false,.sl 0 0 (fun _=>.any) true,.bool false,.sl 0 0 (fun _=>.any) true,.bool false,.sl 0 0 (fun _=>.any) true]:=by kernel_rfl
theorem VT:C4 Tryz.prog 54=some (some 79):=by kernel_rfl
theorem oq:Zh Tryz.prog 54=some 79:=by kernel_rfl
theorem mJ:Cl Tryz.prog 54 0=some (0,25,some 25):=by kernel_rfl
theorem lx:QS Tryz.prog 54 0=some (0,25):=by kernel_rfl
theorem mK:Cl Tryz.prog 54 1=some (25,25,some 25):=by kernel_rfl
theorem lz:QS Tryz.prog 54 1=some (25,25):=by kernel_rfl
theorem mL:Cl Tryz.prog 54 2=some (50,29,some 29):=by kernel_rfl
theorem tg:Bd Tryz.prog 54=true:=by kernel_rfl
theorem oL:QO Tryz.prog 54=some [.int .i64 0,.int .i64 0,.sl 0 0 (fun _=>.any) true,.sl 0 0 (fun _=>.any) true,.sl 0 0 (fun _=>.any) true,.bool false,.sl 0 0 (fun _=>.any) true,.bool false,.sl 0 0 (fun _=>.any) true,.bool false,.sl 0 0 (fun _=>.any) true,.bool false,.sl 0 0 (fun _=>.any) true,.bool false,.sl 0 0 (fun _=>.any) true,.bool false,.sl 0 0 (fun _=>.any) true,.bool false,.sl 0 0 (fun _=>.any) true,.bool false,.sl 0 0 (fun _=>.any) true,.bool false,.sl 0 0 (fun _=>.any) true,.bool false,.sl 0 0 (fun _=>.any) true,.int .i64 0,.int .i64 0,.sl 0 0 (fun _=>.any) true,.sl 0 0 (fun _=>.any) true,.sl 0 0 (fun _=>.any) true,.bool false,.sl 0 0 (fun _=>.any) true,.bool false,.sl 0 0 (fun _=>.any) true,.bool false,.sl 0 0 (fun _=>.any) true,.bool false,.sl 0 0 (fun _=>.any) true,.bool false,.sl 0 0 (fun _=>.any) true,.bool false,.sl 0 0 (fun _=>.any) true,.bool false,.sl 0 0 (fun _=>.any) true,.bool false,.sl 0 0 (fun _=>.any) true,.bool false,.sl 0 0 (fun _=>.any) true,.bool false,.sl 0 0 (fun _=>.any) true,.int .i64 0,.int .i64 0,.int .i64 0,.int .i64 0,.int .i64 0,.bool false,.sl 0 0 (fun _=>.any) true,.bool false,.sl 0 0 (fun _=>.any) true,.bool false,.sl 0 0 (fun _=>.any) true,.bool false,.sl 0 0 (fun _=>.any) true,.bool false,.sl 0 0 (fun _=>.any) true,.bool false,.sl 0 0 (fun _=>.any) true,.bool false,.sl 0 0 (fun _=>.any) true,.bool false,.sl 0 0 (fun _=>.any) true,.bool false,.sl 0 0 (fun _=>.any) true,.bool false,.sl 0 0 (fun _=>.any) true,.bool false,.sl 0 0 (fun _=>.any) true,.bool false,.sl 0 0 (fun _=>.any) true]:=by kernel_rfl
theorem tN:C4 Tryz.prog 57=some none:=by kernel_rfl
theorem ot:Zh Tryz.prog 57=some 1:=by kernel_rfl
theorem tx:B8 Tryz.prog 57=some (52,29,424):=by kernel_rfl
theorem oM:QO Tryz.prog 57=some [.sl 0 0 (fun _=>.any) true]:=by kernel_rfl
theorem tO:C4 Tryz.prog 81=some none:=by kernel_rfl
theorem ou:Zh Tryz.prog 81=some 1:=by kernel_rfl
theorem tz:B8 Tryz.prog 81=some (50,8,128):=by kernel_rfl
theorem oN:QO Tryz.prog 81=some [.sl 0 0 (fun _=>.any) true]:=by kernel_rfl
theorem tP:C4 Tryz.prog 84=some (some 16):=by kernel_rfl
theorem ov:Zh Tryz.prog 84=some 16:=by kernel_rfl
theorem mM:Cl Tryz.prog 84 0=some (0,8,some 8):=by kernel_rfl
theorem lC:QS Tryz.prog 84 0=some (0,8):=by kernel_rfl
theorem mN:Cl Tryz.prog 84 1=some (8,8,some 8):=by kernel_rfl
theorem lD:QS Tryz.prog 84 1=some (8,8):=by kernel_rfl
theorem th:Bd Tryz.prog 84=true:=by kernel_rfl
theorem oO:QO Tryz.prog 84=some [.bool false,.sl 0 0 (fun _=>.any) true,.bool false,.sl 0 0 (fun _=>.any) true,.bool false,.sl 0 0 (fun _=>.any) true,.bool false,.sl 0 0 (fun _=>.any) true,.bool false,.sl 0 0 (fun _=>.any) true,.bool false,.sl 0 0 (fun _=>.any) true,.bool false,.sl 0 0 (fun _=>.any) true,.bool false,.sl 0 0 (fun _=>.any) true]:=by kernel_rfl
theorem gU:C4 Tryz.prog 110=some (some 2):=by kernel_rfl
theorem ju:Zh Tryz.prog 110=some 2:=by kernel_rfl
theorem gn:Cl Tryz.prog 110 0=some (0,1,none):=by kernel_rfl
theorem eH:QS Tryz.prog 110 0=some (0,1):=by kernel_rfl
theorem gq:Cl Tryz.prog 110 1=some (1,1,none):=by kernel_rfl
theorem eI:QS Tryz.prog 110 1=some (1,1):=by kernel_rfl
theorem qv:Bd Tryz.prog 110=true:=by kernel_rfl
theorem jU:QO Tryz.prog 110=some [.int .i64 0,.int .i64 0]:=by kernel_rfl
theorem ri:C4 Tryz.prog 122=some (some 2):=by kernel_rfl
theorem jv:Zh Tryz.prog 122=some 2:=by kernel_rfl
theorem qM:B8 Tryz.prog 122=none:=by kernel_rfl
theorem eJ:QS Tryz.prog 122 0=some (0,1):=by kernel_rfl
theorem eK:QS Tryz.prog 122 1=some (1,1):=by kernel_rfl
theorem qw:Bd Tryz.prog 122=true:=by kernel_rfl
theorem ql:Yp Tryz.prog 122=some (2,1,none):=by kernel_rfl
theorem jV:QO Tryz.prog 122=some [.int .i64 0,.int .i64 0]:=by kernel_rfl
theorem qN:B8 Tryz.prog 123=some (122,2,16):=by kernel_rfl
theorem qO:B8 Tryz.prog 148=some (48,8,128):=by kernel_rfl
theorem r9:ar Tryz.prog 187=some .u64:=by kernel_rfl
theorem rj:C4 Tryz.prog 191=some none:=by kernel_rfl
theorem qP:B8 Tryz.prog 191=some (81,1,24):=by kernel_rfl
theorem rc:ar Tryz.prog 197=some .u64:=by kernel_rfl
theorem qQ:B8 Tryz.prog 241=some (244,3,24):=by kernel_rfl
theorem gV:C4 Tryz.prog 244=some (some 3):=by kernel_rfl
theorem jw:Zh Tryz.prog 244=some 3:=by kernel_rfl
theorem qR:B8 Tryz.prog 244=none:=by kernel_rfl
theorem eL:QS Tryz.prog 244 0=some (0,1):=by kernel_rfl
theorem eN:QS Tryz.prog 244 1=some (1,1):=by kernel_rfl
theorem eP:QS Tryz.prog 244 2=some (2,1):=by kernel_rfl
theorem qx:Bd Tryz.prog 244=true:=by kernel_rfl
theorem qm:Yp Tryz.prog 244=some (3,1,none):=by kernel_rfl
theorem jW:QO Tryz.prog 244=some [.int .i64 0,.int .i64 0,.int .i64 0]:=by kernel_rfl
theorem rk:C4 Tryz.prog 249=some none:=by kernel_rfl
theorem gr:Cl Tryz.prog 252 0=some (0,1,none):=by kernel_rfl
theorem eQ:QS Tryz.prog 252 0=some (0,1):=by kernel_rfl
theorem gt:Cl Tryz.prog 252 1=some (1,1,none):=by kernel_rfl
theorem qy:Bd Tryz.prog 252=true:=by kernel_rfl
theorem jX:QO Tryz.prog 252=some [.sl 0 0 (fun _=>.any) true,.sl 0 0 (fun _=>.any) true]:=by kernel_rfl
theorem OJ:C4 Tryz.prog 255=some (some 1):=by kernel_rfl
theorem jx:Zh Tryz.prog 255=some 1:=by kernel_rfl
theorem gu:Cl Tryz.prog 255 0=some (0,1,none):=by kernel_rfl
theorem jY:QO Tryz.prog 255=some [.sl 0 0 (fun _=>.any) true]:=by kernel_rfl
theorem mixed:Tryz.prog.follows .mixedOrders=true:=by kernel_rfl
theorem Fq {f:FuncId} {fn:Func} {body:Code} {args:List AV} {r:AV} (he:B5 Tryz.prog f) (hf:Tryz.prog.funcs[f]?=some fn) (n0:Nat) (hid str hcs:List Nat) (hs:∀ a∈args,Settled a) (h:Run (QI Tryz.prog fn str hcs r) [.code body] (AS.start n0 hid args [])) (hb:fn.body=some body:=by rfl) (hok:Qz fn.ntmps str hcs body=true:=by kernel_rfl) (hlen:args.length≤fn.ntmps:=by exact Nat.le_of_ble_eq_true rfl):Fn Tryz.prog f args r:=Fn.intro he hf hb mixed n0 hid str hcs hok hlen hs h
set_option linter.defProp false in
def sn:=And.intro @uB <| And.intro @rW <| And.intro @uz <| And.intro @so <| And.intro @uC <| And.intro @rX <| And.intro @qz <| And.intro @sq <| And.intro @tK <| And.intro @oa <| And.intro @oY <| And.intro @tL <| And.intro @tq <| And.intro @tM <| And.intro @oc <| And.intro @tr <| And.intro @XX <| And.intro @od <| And.intro @mg <| And.intro @kV <| And.intro @mh <| And.intro @kW <| And.intro @sZ <| And.intro @oF <| And.intro @Qd <| And.intro @oe <| And.intro @mi <| And.intro @kX <| And.intro @mj <| And.intro @kY <| And.intro @t8 <| And.intro @oG <| And.intro @Gc <| And.intro @og <| And.intro @kZ <| And.intro @ml <| And.intro @l5 <| And.intro @mm <| And.intro @l6 <| And.intro @mn <| And.intro @l7 <| And.intro @mo <| And.intro @l8 <| And.intro @mq <| And.intro @l9 <| And.intro @mr <| And.intro @lc <| And.intro @ms <| And.intro @ld <| And.intro @mu <| And.intro @lf <| And.intro @mv <| And.intro @lg <| And.intro @tc <| And.intro @oH <| And.intro @tv <| And.intro @Dl <| And.intro @oh <| And.intro @mw <| And.intro @lh <| And.intro @my <| And.intro @li <| And.intro @td <| And.intro @oI <| And.intro @Jr <| And.intro @ol <| And.intro @mz <| And.intro @lj <| And.intro @mA <| And.intro @lk <| And.intro @te <| And.intro @oJ <| And.intro @p8 <| And.intro @oo <| And.intro @mB <| And.intro @mC <| And.intro @ll <| And.intro @mD <| And.intro @lm <| And.intro @mE <| And.intro @ln <| And.intro @mF <| And.intro @ls <| And.intro @mG <| And.intro @lu <| And.intro @mH <| And.intro @mI <| And.intro @tf <| And.intro @oK <| And.intro @VT <| And.intro @oq <| And.intro @mJ <| And.intro @lx <| And.intro @mK <| And.intro @lz <| And.intro @mL <| And.intro @tg <| And.intro @oL <| And.intro @tN <| And.intro @ot <| And.intro @tx <| And.intro @oM <| And.intro @tO <| And.intro @ou <| And.intro @tz <| And.intro @oN <| And.intro @tP <| And.intro @ov <| And.intro @mM <| And.intro @lC <| And.intro @mN <| And.intro @lD <| And.intro @th <| And.intro @oO <| And.intro @gU <| And.intro @ju <| And.intro @gn <| And.intro @eH <| And.intro @gq <| And.intro @eI <| And.intro @qv <| And.intro @jU <| And.intro @ri <| And.intro @jv <| And.intro @qM <| And.intro @eJ <| And.intro @eK <| And.intro @qw <| And.intro @ql <| And.intro @jV <| And.intro @qN <| And.intro @qO <| And.intro @r9 <| And.intro @rj <| And.intro @qP <| And.intro @rc <| And.intro @qQ <| And.intro @gV <| And.intro @jw <| And.intro @qR <| And.intro @eL <| And.intro @eN <| And.intro @eP <| And.intro @qx <| And.intro @qm <| And.intro @jW <| And.intro @rk <| And.intro @gr <| And.intro @eQ <| And.intro @gt <| And.intro @qy <| And.intro @jX <| And.intro @OJ <| And.intro @jx <| And.intro @gu <| @jY
set_option linter.defProp false in
def wA:=And.intro @uf <| And.intro @ue <| And.intro @ud <| And.intro @beq_self_eq_true.{0} <| And.intro @ite_true.{1} <| And.intro @ite_false.{1} <| And.intro @false_implies <| And.intro @true_implies <| And.intro @implies_true.{1} <| And.intro @implies_true.{0} <| And.intro @eq_self.{1} <| And.intro @ne_eq.{1} <| @sn
end Go.Ab.N
namespace Go.Ab.N
open Go Go.RowKit Go.Proofs
noncomputable section
set_option maxRecDepth 10000
set_option maxHeartbeats 2000000
open Classical
def iv (neg:Bool) (l:List Int):AV:=.agg [.bool (neg && decide (Ah l l.length≠0)),X8 (l.take (Ah l l.length))]
theorem K2 (neg:Bool) (l:List Int):Settled (iv neg l):=Qm (by simp [X7,X3])
theorem tS (neg:Bool) (d:List Int) (hl:d.length<4611686018427387904):Fn Tryz.prog 208 [.bool neg,X8 d] (iv neg d):=by
 refine Fq Tryz.call208 Tryz.func208 6 [] [] [] (by simp [X7,X9,JZ,Jo,X3,K1,XL,K2,Js]) (X0 1000 ?_); simp (maxSteps:=999999) only [AS.start,↓X2,wA,seval,zA,wN]
 refine Xg (fun n:Nat=>⟨6,[],[.bool neg,X8 d,.any,.any,.ref 0 0 0,I n],[],[.row 0 2 (Xo [.bool false,.sl 0 0 (fun _=>.any) true])]⟩) (fun n=>n≤d.length∧Ah d d.length=Ah d n) (fun n=>n) d.length ⟨by omega,rfl⟩
  (Xa rfl (by simp [zA,wN,Xh,X8,Cw,A3,Qu,I]) (by simp [Xi]) rfl) ?_
 rintro n ⟨hn,ht⟩ next
 cases n with
 | zero =>
  refine X0 1000 ?_
  simp only [Int.lt_irrefl,↓X2,wA,seval,zA,wN]
  refine BN (v:=.agg [.bool false,.sl 0 0 (fun _=>.any) false]) rfl (by simp [AS.get,JG,XX,rd,Qp,Xo,A8]) ?_
  have e:iv neg d=.agg [.bool false,X8 []]:=by unfold iv; rw [ht]; simp [Ah]
  rw [e]
  exact ZD ⟨QL (X3 _) rfl,Xu (X7 _) (Qo _ _),trivial⟩
 | succ n =>
  have e0:(0<((n+1:Nat):Int))=True:=eq_true (by omega)
  have e1:(((n+1:Nat):Int)=0)=False:=eq_false (by omega)
  have w1:IntKind.i64.wrap (((n+1:Nat):Int) - 1)=(n:Int):=by rw [IntKind.wrap_i64]; omega
  have e2:(n<d.length)=True:=eq_true (by omega)
  refine X0 1000 ?_
  simp only [e0,e1,e2,w1,↓X2,wA,seval,zA,wN]
  refine ⟨fun h0=>next n _ ⟨by omega,by rw [ht]; simp only [Ah]; rw [if_pos h0]⟩ (by omega) (Xa rfl (by simp [zA,wN,Xh,X8,Cw,A3,Qu,I]) (by simp [Xi]) rfl),fun h0=>⟨by omega,?_⟩⟩
  have ht2:Ah d d.length=n+1:=by rw [ht]; simp only [Ah]; rw [if_neg h0]
  have e:iv neg d=.agg [.bool neg,X8 (d.take (n+1))]:=by unfold iv; rw [ht2]; simp
  have hlen:(d.take (n+1)).length=n+1:=by rw [List.length_take]; omega
  rw [e]
  refine BN (v:=.agg [.bool neg,.sl (n+1) (n+1) (fun j=>.int .i64 (d.getD j 0)) false]) rfl ?_ ?_
  ·have m1:min (n+1) d.length=n+1:=by omega
   simp [AS.get,JG,XX,rd,Qp,Xo,A8,m1]
  ·refine ZD ⟨QL (X3 _) rfl,Xu (X7 _) (GQ _ hlen.symm (by omega) fun j hj=>?_),trivial⟩
   rw [hlen] at hj
   rw [Bs d 0 j (n+1) hj]; rfl
set_option linter.defProp false in
def Kd:=And.intro @X7 (And.intro @X9 (And.intro @JZ (And.intro @Jo (And.intro @X3 (And.intro @K1 (And.intro @XL (And.intro @K2 @Js)))))))
theorem jT (neg:Bool) {u:Int} (h:0≤u):zA (KD neg u)=.agg [.bool (neg && decide (u≠0)),X8 (Xb u.toNat)]:=by
 unfold zA
 have e1:(KD neg u).natAbs=u.toNat:=by unfold KD; split <;> omega
 rw [e1]
 congr 3
 unfold KD
 have h0':¬ u<0:=by omega
 cases neg
 ·simp [h0']
 ·have:-u<0↔¬ u=0:=by omega
  simp only [if_true,Bool.true_and,decide_eq_decide,ne_eq]
  exact this
def U (n:Int):AV:=.int .u64 n
theorem Z6 (neg:Bool) (u:Int) (h0:0≤u) (h1:u<18446744073709551616):Fn Tryz.prog 207 [.bool neg,.int .u64 u] (zA (KD neg u)):=by
 obtain ⟨R,hR⟩:∃ R,R=zA (KD neg u):=⟨_,rfl⟩
 have eR:=hR.trans (jT neg h0)
 have sR:Settled R:=hR▸XL _
 have b1:u≠0→(neg && decide (u≠0))=neg:=fun h=>by simp [h]
 have w1:IntKind.i64.wrap (u.tmod 1000000000)=u % 1000000000:=by rw [IntKind.wrap_i64,Int.tmod_eq_emod_of_nonneg h0]; omega
 have w2:IntKind.u64.wrap (u.tdiv 1000000000)=u / 1000000000:=by rw [IntKind.wrap_u64,Int.tdiv_eq_ediv_of_nonneg h0]; omega
 have h2:0≤u / 1000000000:=by omega
 have w3:IntKind.i64.wrap (u / 1000000000)=u / 1000000000:=by rw [IntKind.wrap_i64]; omega
 have w4:IntKind.i64.wrap ((u / 1000000000).tmod 1000000000)=u / 1000000000 % 1000000000:=by rw [IntKind.wrap_i64,Int.tmod_eq_emod_of_nonneg h2]; omega
 have w5:IntKind.u64.wrap ((u / 1000000000).tdiv 1000000000)=u / 1000000000 / 1000000000:=by rw [IntKind.wrap_u64,Int.tdiv_eq_ediv_of_nonneg h2]; omega
 have w6:IntKind.i64.wrap (u / 1000000000 / 1000000000)=u / 1000000000 / 1000000000:=by rw [IntKind.wrap_i64]; omega
 rw [← hR]
 refine Fq Tryz.call207 Tryz.func207 6 [] [] [] (by simp [Kd]) (X0 1000 ?_); simp (maxSteps:=999999) only [AS.start,↓X2,wA,↓reduceIte,reduceIte,reduceCtorEq,Y1,Y2,Y3,Y4,Y5,Y6,Y7,Y8,Y9,YA,zA,wN]
 simp only [w1,w2,w3,w4,w5,w6]
 refine ⟨fun a=>?_,fun a0=>⟨fun a1=>?_,fun a1=>⟨fun a2=>⟨by omega,by omega,?_⟩,fun a2=>⟨by omega,by omega,by omega,by omega,by omega,?_⟩⟩⟩⟩
 ·rw [a,show (neg && decide ((0:Int)≠0))=false by simp,show (0:Int).toNat=0 from rfl,Q2] at eR
  exact Qi rfl XX rfl rfl rfl eR sR ⟨Weak.rfl' _,Qo _ _,trivial⟩
 ·have w0:IntKind.i64.wrap u=u:=by rw [IntKind.wrap_i64]; omega
  rw [b1 a0,La (by omega) (by omega),Int.toNat_of_nonneg h0] at eR
  rw [w0]
  exact Qi rfl XX rfl rfl rfl eR sR ⟨Weak.rfl' _,A0 rfl rfl,trivial⟩
 ·rw [b1 a0,Rb (by omega) (by omega)] at eR
  have e1:((u.toNat % 1000000000:Nat):Int)=u % 1000000000:=by omega
  have e2:((u.toNat / 1000000000:Nat):Int)=u / 1000000000:=by omega
  rw [e1,e2] at eR
  exact Qi rfl XX rfl rfl rfl eR sR ⟨Weak.rfl' _,A0 rfl rfl,trivial⟩
 ·rw [b1 a0,Ud (by omega) (by omega)] at eR
  have e1:((u.toNat % 1000000000:Nat):Int)=u % 1000000000:=by omega
  have e2:((u.toNat / 1000000000 % 1000000000:Nat):Int)=u / 1000000000 % 1000000000:=by omega
  have e3:((u.toNat / 1000000000 / 1000000000:Nat):Int)=u / 1000000000 / 1000000000:=by omega
  rw [e1,e2,e3] at eR
  exact Qi rfl XX rfl rfl rfl eR sR ⟨Weak.rfl' _,A0 rfl rfl,trivial⟩
theorem OL (z:Int):Fn Tryz.prog 196 [zA z] (zA (-z)):=by
 have e:(-z).natAbs=z.natAbs:=by omega
 have e0:z.natAbs=0↔z=0:=by omega
 have e1:(Xb z.natAbs).length=0↔z=0:=digs_len_zero.trans e0
 refine Fq Tryz.call196 Tryz.func196 3 [] [] [] (by simp [Kd]) (X0 1000 ?_); simp (maxSteps:=999999) only [AS.start,↓X2,wA,↓reduceIte,reduceIte,reduceCtorEq,Y1,Y2,Y3,Y4,Y5,Y6,Y7,Y8,Y9,YA,zA,wN]
 refine ⟨fun h=>Qi rfl XX rfl rfl rfl rfl (XL _) ?_,fun h=>Qi rfl XX rfl rfl rfl rfl (XL _) ?_⟩
 ·rw [e]
  have:decide (-z<0)=decide (0<((Xb z.natAbs).length:Int)):=by rw [decide_eq_decide]; omega
  rw [this]
  exact ⟨Weak.rfl' _,Weak.rfl' _,trivial⟩
 ·rw [e,show decide (-z<0)=false from decide_eq_false (by omega)]
  exact ⟨Weak.rfl' _,Weak.rfl' _,trivial⟩
theorem nS (z:Int):Fn Tryz.prog 155 [zA z] (I z.sign):=by
 have e0:z.natAbs=0↔z=0:=by omega
 have e1:(Xb z.natAbs).length=0↔z=0:=digs_len_zero.trans e0
 refine Fq Tryz.call155 Tryz.func155 4 [] [] [] (by simp [Kd]) (X0 1000 ?_); simp (maxSteps:=999999) only [AS.start,↓X2,wA,↓reduceIte,reduceIte,reduceCtorEq,Y1,Y2,Y3,Y4,Y5,Y6,Y7,Y8,Y9,YA,zA,wN]
 refine ⟨fun h=>Xt rfl rfl (X9 _) ?_,fun h=>⟨fun h2=>Xt rfl rfl (X9 _) ?_,fun h2=>Xt rfl rfl (X9 _) ?_⟩⟩
 ·rw [Int.sign_eq_neg_one_of_neg h]; rfl
 ·rw [e1.1 (by omega)]; rfl
 ·rw [Int.sign_eq_one_of_pos (by omega)]; rfl
theorem Pg (d:List Int) (h:Jq d):Fn Tryz.prog 226 [X8 d] (.tup [I (if d.length≤2 then val d else 0),.bool (decide (d.length≤2))]):=by
 have k2:¬ d.length≤2→I 0=I (if d.length≤2 then val d else 0)∧AV.bool false=.bool (decide (d.length≤2)):=fun h=>by simp [h]
 have k1:d.length≤2→∀ x,x=val d→I x=I (if d.length≤2 then val d else 0)∧AV.bool true=.bool (decide (d.length≤2)):=fun h x hx=>by simp [h,hx]
 refine Fq Tryz.call226 Tryz.func226 4 [5] [] [] (by simp [Kd]) (X0 1000 ?_); simp (maxSteps:=999999) only [AS.start,↓X2,wA,↓reduceIte,reduceIte,reduceCtorEq,Y1,Y2,Y3,Y4,Y5,Y6,Y7,Y8,Y9,YA,zA,wN]
 have fin:∀ {s:AS} {x:Int},s.get 2=I x→s.get 3=.bool true→d.length≤2→x=val d→RetOk (QI Tryz.prog Tryz.f226 [] [] (.tup [I (if d.length≤2 then val d else 0),.bool (decide (d.length≤2))])) s:=fun h1 h2 hl hx =>
  SC rfl h1 h2 (X9 _) (X3 _) (k1 hl _ hx).1 (k1 hl _ hx).2
 refine ⟨fun a=>fin rfl rfl (by omega) ?_,fun a0=>⟨fun a=>⟨by omega,by omega,fin rfl rfl (by omega) ?_⟩,fun a1=>⟨fun a=>⟨⟨by omega,by omega⟩,by omega,by omega,by omega,fin rfl rfl (by omega) ?_⟩,fun a2=>SC rfl rfl rfl (X9 _) (X3 _) (k2 (by omega)).1 (k2 (by omega)).2⟩⟩⟩
 ·obtain rfl:d=[]:=List.length_eq_zero_iff.1 (by omega)
  rfl
 ·obtain ⟨x,rfl⟩:=List.length_eq_one_iff.1 (show d.length=1 by omega)
  simp [val]
 ·obtain ⟨x,y,rfl⟩:∃ x y,d=[x,y]:=by
   match d,a with
   | [x,y],_=>exact ⟨x,y,rfl⟩
   | [],h=>exact absurd h (by simp)
   | [_],h=>exact absurd h (by simp)
   | _ :: _ :: _ :: _,h=>exact absurd h (by simp; omega)
  have h1:=h x (by simp)
  have h2:=h y (by simp)
  unfold Q8 at h1 h2
  simp only [List.getD_cons_zero,List.getD_cons_succ,val,IntKind.wrap_i64]
  omega
theorem RM (a:Int):Fn Tryz.prog 267 [I a] (.bool false):=by
 refine Fq Tryz.call267 Tryz.func267 3 [] [] [] (by simp [Kd]) (X0 1000 ?_); simp (maxSteps:=999999) only [AS.start,↓X2,wA,↓reduceIte,reduceIte,reduceCtorEq,Y1,Y2,Y3,Y4,Y5,Y6,Y7,Y8,Y9,YA,zA,wN]
 exact Xt rfl rfl (X3 _) rfl
theorem Vz (a b:Int):Fn Tryz.prog 249 [I a,I b] (I (a - b).sign):=by
 refine Fq Tryz.call249 Tryz.func249 7 [] [] [] (by simp [Kd]) (X0 1000 ?_); simp (maxSteps:=999999) only [AS.start,↓X2,wA,↓reduceIte,reduceIte,reduceCtorEq,Y1,Y2,Y3,Y4,Y5,Y6,Y7,Y8,Y9,YA,zA,wN]
 refine X1 (RM a) rfl ?_
 simp only [↓X2,wA,↓reduceIte,reduceIte,reduceCtorEq,Y1,Y2,Y3,Y4,Y5,Y6,Y7,Y8,Y9,YA,zA,wN]
 refine X1 (RM b) rfl ?_
 simp only [↓X2,wA,↓reduceIte,reduceIte,reduceCtorEq,Y1,Y2,Y3,Y4,Y5,Y6,Y7,Y8,Y9,YA,zA,wN]
 refine ⟨fun h=>Xt rfl rfl (X9 _) ?_,fun h=>⟨fun h2=>Xt rfl rfl (X9 _) ?_,fun h2=>Xt rfl rfl (X9 _) ?_⟩⟩
 ·rw [Int.sign_eq_neg_one_of_neg (by omega)]; rfl
 ·rw [Int.sign_eq_one_of_pos (by omega)]; rfl
 ·rw [show a - b=0 by omega]; rfl
theorem fo {a b:List Int} (ha:Jq a) (hb:Jq b) (hl:a.length=b.length) {i:Nat} (hi:i<a.length) (he:a.drop (i+1)=b.drop (i+1)) (hne:a.getD i 0≠b.getD i 0) :
  (val a - val b).sign=(a.getD i 0 - b.getD i 0).sign:=by
 rw [Jv a i (by omega),Jv b i (by omega),Kp a i hi,Kp b i (by omega),he]
 have h1:=Q1 (QM ha i)
 have h2:=Q1 (QM hb i)
 have h3:=Zq (QM ha i)
 have h4:=Zq (QM hb i)
 have e1:(a.take i).length=i:=by rw [List.length_take]; omega
 have e2:(b.take i).length=i:=by rw [List.length_take]; omega
 rw [e1] at h3
 rw [e2] at h4
 generalize val (a.take i)=p at *
 generalize val (b.take i)=q at *
 generalize val (b.drop (i+1))=r at *
 generalize a.getD i 0=x at *
 generalize b.getD i 0=y at *
 have hp:=JU i
 generalize pw i=P at *
 have e:p+P*(x+1000000000*r) - (q+P*(y+1000000000*r))=(p - q)+P*(x - y):=by grind
 rw [e]
 rcases Int.lt_or_gt_of_ne hne with h | h
 ·rw [Int.sign_eq_neg_one_of_neg (show x - y<0 by omega)]
  have:P*(x - y)≤P*(-1):=Int.mul_le_mul_of_nonneg_left (by omega) (by omega)
  exact Int.sign_eq_neg_one_of_neg (by omega)
 ·rw [Int.sign_eq_one_of_pos (show 0<x - y by omega)]
  have:P*1≤P*(x - y):=Int.mul_le_mul_of_nonneg_left (by omega) (by omega)
  exact Int.sign_eq_one_of_pos (by omega)
theorem DC {a b:List Int} (ha:A6 a) (hb:A6 b) (h:a.length<b.length):val a<val b:=by
 have h1:=Zq ha.1
 have hne:b≠[]:=fun e=>by rw [e] at h; simp at h
 have h2:=Cr hb hne
 have h3:=CZ (show a.length≤b.length - 1 by omega)
 omega
theorem FY {a b:List Int} (hl:a.length=b.length) {i:Nat} (hi:i<a.length) (he:a.drop (i+1)=b.drop (i+1)) (h:a.getD i 0=b.getD i 0):a.drop i=b.drop i:=by
 have hi2:i<b.length:=by omega
 rw [List.drop_eq_getElem_cons hi,List.drop_eq_getElem_cons hi2,he]
 rw [List.getD_eq_getElem?_getD,List.getElem?_eq_getElem hi,List.getD_eq_getElem?_getD,List.getElem?_eq_getElem hi2] at h
 simp only [Option.getD_some] at h
 rw [h]
theorem CM (a b:List Int) (ha:A6 a) (hb:A6 b) (la:a.length<4611686018427387904):Fn Tryz.prog 215 [X8 a,X8 b] (I (val a - val b).sign):=by
 have hc:a.length≠b.length→Fn Tryz.prog 249 [I a.length,I b.length] (I (val a - val b).sign):=fun h=>by
  have e:((a.length:Int) - b.length).sign=(val a - val b).sign:=by
   rcases Nat.lt_or_gt_of_ne h with h' | h'
   ·have:=DC ha hb h'
    rw [Int.sign_eq_neg_one_of_neg (by omega),Int.sign_eq_neg_one_of_neg (by omega)]
   ·have:=DC hb ha h'
    rw [Int.sign_eq_one_of_pos (by omega),Int.sign_eq_one_of_pos (by omega)]
  rw [← e]; exact Vz _ _
 refine Fq Tryz.call215 Tryz.func215 6 [] [] [] (by simp [Kd]) (X0 1000 ?_); simp (maxSteps:=999999) only [AS.start,↓X2,wA,seval,zA,wN]
 refine ⟨fun h=>X1 (hc h) rfl ?_,fun hl=>?_⟩
 ·simp only [↓X2,wA,seval,zA,wN]
  exact Xt rfl rfl (X9 _) rfl
 refine Xg (fun k:Nat=>⟨6,[],[X8 a,X8 b,.any,.any,I 0,I ((k:Int) - 1)],[],[]⟩) (fun k=>k≤a.length∧a.drop k=b.drop k) (fun k=>k) a.length ⟨by omega,by rw [List.drop_length,hl,List.drop_length]⟩
  ?_ ?_
 ·have w0:IntKind.i64.wrap ((a.length:Int) - 1)=(a.length:Int) - 1:=by rw [IntKind.wrap_i64]; omega
  rw [w0]
  exact (Xa rfl (by simp [zA,wN,Xh,X8,Cw,A3,Qu,I]) (by simp [Xi]) rfl)
 rintro k ⟨hk,he⟩ next
 cases k with
 | zero =>
  refine X0 1000 ?_
  have e0:(0≤((0:Nat):Int) - 1)=False:=eq_false (by omega)
  have e1:((0:Int)≤0 - 1)=False:=eq_false (by omega)
  simp only [e0,e1,↓X2,wA,seval,zA,wN]
  refine Xt rfl rfl (X9 _) ?_
  rw [List.drop_zero,List.drop_zero] at he
  rw [he,Int.sub_self]; rfl
 | succ k =>
  have e1:((k+1:Nat):Int) - 1=(k:Int):=by omega
  have w1:IntKind.i64.wrap ((k:Int) - 1)=(k:Int) - 1:=by rw [IntKind.wrap_i64]; omega
  have e2:((k:Int)<a.length)=True:=eq_true (by omega)
  have e3:(k<a.length)=True:=eq_true (by omega)
  have e4:(k<b.length)=True:=eq_true (by omega)
  have hcm:a.getD k 0≠b.getD k 0→Fn Tryz.prog 249 [I (a.getD k 0),I (b.getD k 0)] (I (val a - val b).sign):=fun h=>by
   rw [fo ha.1 hb.1 hl (by omega) he h]; exact Vz _ _
  refine X0 1000 ?_
  simp only [e1,w1,e3,e4,↓X2,wA,seval,zA,wN]
  refine ⟨fun h=>X1 (hcm h) rfl ?_,fun h=>next k _ ⟨by omega,FY hl (by omega) he h⟩ (by omega) (Xa rfl (by simp [zA,wN,Xh,X8,Cw,A3,Qu,I]) (by simp [Xi]) rfl)⟩
  simp only [↓X2,wA,seval,zA,wN]
  exact Xt rfl rfl (X9 _) rfl
theorem Fx (n:Int) (h:Ks n):Fn Tryz.prog 148 [I n] (zA n):=by
 obtain ⟨R,hR⟩:∃ R,R=zA n:=⟨_,rfl⟩
 have sR:Settled R:=hR▸XL _
 unfold Ks at h
 have c1:n<0→Fn Tryz.prog 207 [.bool (decide (n<0)),.int .u64 (IntKind.u64.wrap (0 - IntKind.u64.wrap n))] R:=fun h1=>by
  have e:IntKind.u64.wrap (0 - IntKind.u64.wrap n) = -n:=by rw [IntKind.wrap_u64,IntKind.wrap_u64]; omega
  have e2:KD (decide (n<0)) (-n)=n:=by unfold KD; rw [if_pos (decide_eq_true h1)]; omega
  have:=Z6 (decide (n<0)) (-n) (by omega) (by omega)
  rw [e2] at this
  rw [e,hR]; exact this
 have c2:¬ n<0→Fn Tryz.prog 207 [.bool (decide (n<0)),.int .u64 (IntKind.u64.wrap n)] R:=fun h1=>by
  have e:IntKind.u64.wrap n=n:=by rw [IntKind.wrap_u64]; omega
  have e2:KD (decide (n<0)) n=n:=by unfold KD; rw [if_neg (by simp; omega)]
  have:=Z6 (decide (n<0)) n (by omega) (by omega)
  rw [e2] at this
  rw [e,hR]; exact this
 rw [← hR]
 refine Fq Tryz.call148 Tryz.func148 4 [] [] [] (by simp [Kd]) (X0 1000 ?_); simp (maxSteps:=999999) only [AS.start,↓X2,wA,seval,zA,wN]
 refine ⟨fun h1=>X1 (c1 h1) rfl ?_,fun h1=>X1 (c2 h1) rfl ?_⟩
 ·simp only [hR,↓X2,wA,seval,zA,wN]
  exact Qi rfl XX rfl rfl rfl hR sR ⟨Weak.rfl' _,Weak.rfl' _,trivial⟩
 ·simp only [hR,↓X2,wA,seval,zA,wN]
  exact Qi rfl XX rfl rfl rfl hR sR ⟨Weak.rfl' _,Weak.rfl' _,trivial⟩
end
end Go.Ab.N
