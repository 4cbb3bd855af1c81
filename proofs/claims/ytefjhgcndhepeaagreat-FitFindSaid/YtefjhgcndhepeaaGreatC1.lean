/- Contracts of functions of these chapters, for every argument that fits, and what they need. -/
import Derived.Test.YtefjhgcndhepeaaGreatAb4
import Derived.Test.YtefjhgcndhepeaaGreatRows
import Derived.KernelRfl
set_option linter.unusedSimpArgs false
set_option linter.unusedVariables false
open Nat renaming reducePow → Y1, reduceLT → Y2, reduceLeDiff → Y3, reduceEqDiff → Y4, reduceAdd → Y5, reduceMul → Y6, reduceSub → Y7, reduceBEq → Y8, reduceDiv → Y9, reduceMod → YA
namespace Go.Ab.N
open Go.Ab
open Classical
noncomputable section
def pw:Nat→Int
 | 0=>1
 | n+1=>1000000000*pw n
theorem JQ:∀ n,0<pw n
 | 0=>by simp [pw]
 | n+1=>by have:=JQ n; simp only [pw]; omega
theorem Fe (m n:Nat):pw (m+n)=pw m*pw n:=by
 induction m with
 | zero=>simp [pw]
 | succ m ih=>rw [show m+1+n=(m+n)+1 by omega]; simp only [pw]; rw [ih,Int.mul_assoc]
theorem CP {m n:Nat} (h:m≤n):pw m≤pw n:=by
 obtain ⟨k,rfl⟩:=Nat.exists_eq_add_of_le h
 induction k with
 | zero=>exact Int.le_refl _
 | succ k ih =>
  have h1:=ih (by omega)
  have h2:=JQ (m+k)
  rw [show m+(k+1)=(m+k)+1 by omega]
  simp only [pw]; omega
def val:List Int→Int
 | []=>0
 | d :: l=>d+1000000000*val l
def Q6 (d:Int):Prop:=0≤d∧d<1000000000
def Jp (l:List Int):Prop:=∀ d∈l,Q6 d
def ZW (l:List Int):Prop:=Jp l∧(l≠[]→l.getD (l.length - 1) 0≠0)
theorem BR:Jp []:=fun _ h=>by cases h
theorem KL {d:Int} {l:List Int}:Jp (d :: l)↔Q6 d∧Jp l:=by unfold Jp; simp
theorem HV {l m:List Int}:Jp (l ++ m)↔Jp l∧Jp m:=by
 unfold Jp
 constructor
 ·exact fun h=>⟨fun d hd=>h d (List.mem_append_left _ hd),fun d hd=>h d (List.mem_append_right _ hd)⟩
 ·rintro ⟨h1,h2⟩ d hd
  rcases List.mem_append.1 hd with h | h
  ·exact h1 d h
  ·exact h2 d h
theorem Jv {l:List Int} (h:Jp l) (i:Nat):Q6 (l.getD i 0):=by
 by_cases hi:i<l.length
 ·exact h _ (QE hi)
 ·rw [List.getD_eq_getElem?_getD,List.getElem?_eq_none (by omega)]; exact ⟨by simp,by simp⟩
theorem QJ {l:List Int} (h:Jp l) (n:Nat):Jp (l.take n):=fun d hd=>h d (List.mem_of_mem_take hd)
theorem MM {l:List Int} (h:∀ i,i<l.length→Q6 (l.getD i 0)):Jp l:=by
 intro d hd
 obtain ⟨i,hi,rfl⟩:=List.getElem_of_mem hd
 have:=h i hi
 rwa [List.getD_eq_getElem?_getD,List.getElem?_eq_getElem hi] at this
theorem XX {l:List Int} (h:Jp l):0≤val l:=by
 induction l with
 | nil=>exact Int.le_refl 0
 | cons d l ih =>
  obtain ⟨h1,h2⟩:=KL.1 h
  have:=ih h2
  simp only [val]; unfold Q6 at h1; omega
theorem Zg {l:List Int} (h:Jp l):val l<pw l.length:=by
 induction l with
 | nil=>simp [val,pw]
 | cons d l ih =>
  obtain ⟨h1,h2⟩:=KL.1 h
  have:=ih h2
  simp only [val,List.length_cons,pw]; unfold Q6 at h1; omega
theorem OT (l m:List Int):val (l ++ m)=val l+pw l.length*val m:=by
 induction l with
 | nil=>simp [val,pw]
 | cons d l ih =>
  simp only [List.cons_append,val,List.length_cons,pw]
  rw [ih,Int.mul_add,Int.mul_assoc]; omega
theorem DZ (l:List Int) (x:Int):val (l ++ [x])=val l+pw l.length*x:=by
 rw [OT]; simp [val]
theorem Jo (l:List Int) (i:Nat) (h:i<l.length):val (l.take (i+1))=val (l.take i)+pw i*l.getD i 0:=by
 rw [Q0 l 0 i h,DZ,List.length_take,Nat.min_eq_left (by omega)]
theorem Ew (n:Nat):val (List.replicate n 0)=0:=by
 induction n with
 | zero=>rfl
 | succ n ih=>simp [List.replicate_succ,val,ih]
theorem Cj {l:List Int} (h:ZW l) (hne:l≠[]):pw (l.length - 1)≤val l:=by
 have hl:=h.2 hne
 have hlen:0<l.length:=List.length_pos_iff.2 hne
 have e:=Jo l (l.length - 1) (by omega)
 rw [show l.length - 1+1=l.length by omega,List.take_length] at e
 have h1:=XX (QJ h.1 (l.length - 1))
 have h2:=Jv h.1 (l.length - 1)
 have h3:=JQ (l.length - 1)
 have h4:pw (l.length - 1)*1≤pw (l.length - 1)*l.getD (l.length - 1) 0:=Int.mul_le_mul_of_nonneg_left (by unfold Q6 at h2; omega) (by omega)
 omega
theorem Ih:∀ {a b:List Int},Jp a→Jp b→a.length=b.length→val a=val b→a=b
 | [],[],_,_,_,_=>rfl
 | [],_ :: _,_,_,h,_=>by simp at h
 | _ :: _,[],_,_,h,_=>by simp at h
 | x :: a,y :: b,ha,hb,hl,hv=>by
  obtain ⟨h1,h2⟩:=KL.1 ha
  obtain ⟨h3,h4⟩:=KL.1 hb
  simp only [val] at hv
  unfold Q6 at h1 h3
  have hxy:x=y:=by omega
  have hv':val a=val b:=by omega
  rw [hxy,Ih h2 h4 (by simpa using hl) hv']
theorem Ye {a b:List Int} (ha:ZW a) (hb:ZW b) (h:val a=val b):a=b:=by
 have key:∀ {a b:List Int},ZW a→ZW b→val a=val b→a.length≤b.length→a=b:=by
  intro a b ha hb h hl
  by_cases e:a.length=b.length
  ·exact Ih ha.1 hb.1 e h
  ·exfalso
   have hne:b≠[]:=fun e'=>by
    have:b.length=0:=by rw [e']; rfl
    omega
   have h1:=Cj hb hne
   have h2:=Zg ha.1
   have h3:=CP (show a.length≤b.length - 1 by omega)
   omega
 rcases Nat.le_total a.length b.length with hl | hl
 ·exact key ha hb h hl
 ·exact (key hb ha h.symm hl).symm
def Xb (n:Nat):List Int:=if h:n=0 then [] else ((n % 1000000000:Nat):Int) :: Xb (n / 1000000000)
termination_by n
decreasing_by omega
theorem XY:Xb 0=[]:=by rw [Xb]; simp
theorem AB {n:Nat} (h:n≠0):Xb n=((n % 1000000000:Nat):Int) :: Xb (n / 1000000000):=by rw [Xb]; simp [h]
theorem XD (n:Nat):val (Xb n)=n:=by
 induction n using Nat.strongRecOn with
 | ind n ih =>
  by_cases h:n=0
  ·subst h; rw [XY]; rfl
  ·rw [AB h]
   simp only [val]
   rw [ih (n / 1000000000) (by omega)]; omega
theorem XL (n:Nat):Jp (Xb n):=by
 induction n using Nat.strongRecOn with
 | ind n ih =>
  by_cases h:n=0
  ·subst h; rw [XY]; exact BR
  ·rw [AB h]
   exact KL.2 ⟨⟨by omega,by omega⟩,ih _ (by omega)⟩
theorem HW {n:Nat} (h:n≠0):Xb n≠[]:=by rw [AB h]; simp
theorem O9 {n:Nat}:Xb n=[]↔n=0:=⟨fun h=>Classical.byContradiction fun e=>HW e h,fun h=>by rw [h]; exact XY⟩
theorem XQ (n:Nat):ZW (Xb n):=by
 refine ⟨XL n,?_⟩
 induction n using Nat.strongRecOn with
 | ind n ih =>
  intro hne
  by_cases h:n=0
  ·subst h; exact absurd XY hne
  ·rw [AB h]
   by_cases h2:n / 1000000000=0
   ·rw [h2,XY]; simp; omega
   ·have hn:=HW h2
    have:=ih (n / 1000000000) (by omega) hn
    obtain ⟨k,hk⟩:∃ k,(Xb (n / 1000000000)).length=k+1:=⟨(Xb (n / 1000000000)).length - 1,by have:=List.length_pos_iff.2 hn; omega⟩
    simp only [List.length_cons,hk,Nat.add_sub_cancel] at this ⊢
    simpa using this
theorem Ay {l:List Int} (h:ZW l):Xb (val l).toNat=l:=by
 refine Ye (XQ _) h ?_
 rw [XD]
 have:=XX h.1
 omega
theorem nu {l:List Int} (h:Jp l):((val l).toNat:Int)=val l:=Int.toNat_of_nonneg (XX h)
def A9 (l:List Int):Nat→Nat
 | 0=>0
 | n+1=>if l.getD n 0=0 then A9 l n else n+1
theorem Wb (l:List Int):∀ n,A9 l n≤n
 | 0=>Nat.le_refl _
 | n+1=>by
  simp only [A9]
  split
  ·exact Nat.le_succ_of_le (Wb l n)
  ·exact Nat.le_refl _
theorem SE {l:List Int}:∀ n,n≤l.length→val (l.take (A9 l n))=val (l.take n)
 | 0,_=>rfl
 | n+1,h=>by
  simp only [A9]
  split
  ·rename_i e
   rw [SE n (by omega),Jo l n h,e]; simp
  ·rfl
theorem UK {l:List Int} (h:Jp l) (n:Nat) (hn:n≤l.length):ZW (l.take (A9 l n)):=by
 refine ⟨QJ h _,fun hne=>?_⟩
 induction n with
 | zero=>simp [A9] at hne
 | succ n ih =>
  simp only [A9] at hne ⊢
  split
  ·rename_i e; rw [if_pos e] at hne; exact ih (by omega) hne
  ·rename_i e
   rw [List.length_take,Nat.min_eq_left hn,Nat.add_sub_cancel,Bi l 0 n (n+1) (by omega)]
   exact e
theorem aX {l:List Int} (h:Jp l):l.take (A9 l l.length)=Xb (val l).toNat:=by
 have h1:=UK h l.length (Nat.le_refl _)
 rw [← Ay h1,SE _ (Nat.le_refl _),List.take_length]
def sm (f:Nat→Int):Nat→Int
 | 0=>0
 | n+1=>sm f n+pw n*f n
def Az (f:Nat→Int) (n:Nat):List Int:=(List.range n).map f
theorem Qc (f:Nat→Int) (n:Nat):(Az f n).length=n:=by simp [Az]
theorem DY (f:Nat→Int) (n:Nat):Az f (n+1)=Az f n ++ [f n]:=by simp [Az,List.range_succ]
theorem Ca (f:Nat→Int) (n i:Nat) (h:i<n):(Az f n).getD i 0=f i:=by simp [Az,List.getD_eq_getElem?_getD,h]
theorem KB {f f':Nat→Int} {n:Nat} (h:∀ k,k<n→f k=f' k):Az f n=Az f' n:=List.map_congr_left fun k hk=>h k (by simpa using hk)
theorem Gp (f:Nat→Int):∀ n,val (Az f n)=sm f n
 | 0=>rfl
 | n+1=>by rw [DY,DZ,Qc,Gp f n]; rfl
theorem W4 (l:List Int):∀ n,n≤l.length→sm (fun i=>l.getD i 0) n=val (l.take n)
 | 0,_=>rfl
 | n+1,h=>by rw [Jo l n h,← W4 l n (by omega)]; rfl
theorem qY (l:List Int) (n:Nat) (h:l.length≤n):sm (fun i=>l.getD i 0) n=val l:=by
 obtain ⟨k,rfl⟩:=Nat.exists_eq_add_of_le h
 induction k with
 | zero=>rw [Nat.add_zero,W4 l _ (Nat.le_refl _),List.take_length]
 | succ k ih =>
  rw [show l.length+(k+1)=(l.length+k)+1 by omega]
  simp only [sm]
  rw [ih (by omega)]
  have:l.getD (l.length+k) 0=0:=by rw [List.getD_eq_getElem?_getD,List.getElem?_eq_none (by omega)]; rfl
  rw [this]; simp
theorem CE {f:Nat→Int} {n:Nat} (h:∀ i,i<n→Q6 (f i)):Jp (Az f n):=by
 refine MM fun i hi=>?_
 rw [Qc] at hi
 rw [Ca _ _ _ hi]; exact h i hi
def Qi (a b:Nat→Int):Nat→Int
 | 0=>0
 | i+1=>if 1000000000≤a i+b i+Qi a b i then 1 else 0
def Ah (a b:Nat→Int) (i:Nat):Int:=if 1000000000≤a i+b i+Qi a b i then a i+b i+Qi a b i - 1000000000 else a i+b i+Qi a b i
theorem Dk (a b:Nat→Int):∀ i,Qi a b i=0∨Qi a b i=1
 | 0=>.inl rfl
 | i+1=>by simp only [Qi]; split <;> simp
theorem P3 {a b:Nat→Int} {i:Nat} (ha:Q6 (a i)) (hb:Q6 (b i)):Q6 (Ah a b i):=by
 have:=Dk a b i
 unfold Q6 at *
 unfold Ah
 split <;> omega
theorem NQ (a b:Nat→Int):∀ n,sm (Ah a b) n+pw n*Qi a b n=sm a n+sm b n
 | 0=>by simp [sm,Qi]
 | n+1=>by
  have ih:=NQ a b n
  have e:Ah a b n+1000000000*Qi a b (n+1)=a n+b n+Qi a b n:=by
   simp only [Ah,Qi]
   split <;> omega
  simp only [sm,pw]
  have:pw n*(Ah a b n+1000000000*Qi a b (n+1))=pw n*(a n+b n+Qi a b n):=by rw [e]
  grind
def JN (a b:Nat→Int):Nat→Int
 | 0=>0
 | i+1=>if a i - b i - JN a b i<0 then 1 else 0
def AX (a b:Nat→Int) (i:Nat):Int:=if a i - b i - JN a b i<0 then a i - b i - JN a b i+1000000000 else a i - b i - JN a b i
theorem Gi (a b:Nat→Int):∀ i,JN a b i=0∨JN a b i=1
 | 0=>.inl rfl
 | i+1=>by simp only [JN]; split <;> simp
theorem Sz {a b:Nat→Int} {i:Nat} (ha:Q6 (a i)) (hb:Q6 (b i)):Q6 (AX a b i):=by
 have:=Gi a b i
 unfold Q6 at *
 unfold AX
 split <;> omega
theorem OM (a b:Nat→Int):∀ n,sm (AX a b) n - pw n*JN a b n=sm a n - sm b n
 | 0=>by simp [sm,JN]
 | n+1=>by
  have ih:=OM a b n
  have e:AX a b n - 1000000000*JN a b (n+1)=a n - b n - JN a b n:=by
   simp only [AX,JN]
   split <;> omega
  simp only [sm,pw]
  have:pw n*(AX a b n - 1000000000*JN a b (n+1))=pw n*(a n - b n - JN a b n):=by rw [e]
  grind
theorem oA {f:Nat→Int}:∀ {n:Nat},(∀ i,i<n→Q6 (f i))→0≤sm f n∧sm f n<pw n
 | 0,_=>by simp [sm,pw]
 | n+1,h=>by
  obtain ⟨h1,h2⟩:=oA (n:=n) fun i hi=>h i (by omega)
  have h3:=h n (by omega)
  have h4:=JQ n
  unfold Q6 at h3
  have h5:pw n*f n≤pw n*999999999:=Int.mul_le_mul_of_nonneg_left (by omega) (by omega)
  have h6:0≤pw n*f n:=Int.mul_nonneg (by omega) h3.1
  simp only [sm,pw]; omega
theorem W6 {a b:Nat→Int} {n:Nat} (ha:∀ i,i<n→Q6 (a i)) (hb:∀ i,i<n→Q6 (b i)) (h:sm b n≤sm a n):JN a b n=0:=by
 have h1:=OM a b n
 have h2:=(oA (f:=AX a b) (n:=n) fun i hi=>Sz (ha i hi) (hb i hi)).2
 rcases Gi a b n with e | e
 ·exact e
 ·rw [e] at h1; omega
theorem Qz (l:List Int) (i j:Nat) (x:Int) (hi:i<l.length):(l.set i x).getD j 0=if j=i then x else l.getD j 0:=by
 simp only [List.getD_eq_getElem?_getD,List.getElem?_set]
 by_cases h:i=j
 ·subst h; simp [hi]
 ·simp [h,Ne.symm h]
theorem C3:∀ (l:List Int) (i:Nat) (x:Int),i<l.length→val (l.set i x)=val l+pw i*(x - l.getD i 0)
 | [],_,_,h=>by simp at h
 | d :: l,0,x,_=>by simp [val,pw]; omega
 | d :: l,i+1,x,h=>by
  have ih:=C3 l i x (by simpa using h)
  simp only [List.set_cons_succ,val,pw,List.getD_cons_succ]
  rw [ih,Int.mul_add,Int.mul_assoc]; omega
theorem Ec {l:List Int} (h:Jp l) (i:Nat) {x:Int} (hx:Q6 x):Jp (l.set i x):=fun d hd=>by
 rcases List.mem_or_eq_of_mem_set hd with e | e
 ·exact h d e
 ·rw [e]; exact hx
theorem Bq {x y:Int} (hx:Q6 x) (hy:Q6 y):0≤x*y∧x*y≤999999998000000001:=by
 unfold Q6 at hx hy
 have h1:0≤x*y:=Int.mul_nonneg hx.1 hy.1
 have h2:x*y≤999999999*y:=Int.mul_le_mul_of_nonneg_right (by omega) hy.1
 omega
theorem Ki (l:List Int) (i:Nat) (h:i<l.length):val (l.drop i)=l.getD i 0+1000000000*val (l.drop (i+1)):=by
 rw [List.drop_eq_getElem_cons h]
 simp only [val]
 rw [List.getD_eq_getElem?_getD,List.getElem?_eq_getElem h]; rfl
theorem Ju (l:List Int) (i:Nat) (h:i≤l.length):val l=val (l.take i)+pw i*val (l.drop i):=by
 conv=>lhs; rw [← List.take_append_drop i l]
 rw [OT,List.length_take,Nat.min_eq_left h]
def Kq (a:Nat→Int) (k:Int):Nat→Int
 | 0=>0
 | i+1=>(a i*k+Kq a k i) / 1000000000
def Fa (a:Nat→Int) (k:Int) (i:Nat):Int:=(a i*k+Kq a k i) % 1000000000
theorem Co {a:Nat→Int} {k:Int} (ha:∀ i,Q6 (a i)) (hk:Q6 k):∀ i,Q6 (Kq a k i)
 | 0=>⟨by simp [Kq],by simp [Kq]⟩
 | i+1=>by
  have h1:=Co ha hk i
  have h2:=Bq (ha i) hk
  simp only [Kq]; unfold Q6 at *; omega
theorem gv {a:Nat→Int} {k:Int} (ha:∀ i,Q6 (a i)) (hk:Q6 k) (i:Nat):Q6 (Fa a k i):=by
 unfold Fa Q6; omega
theorem VC (a:Nat→Int) (k:Int):∀ n,sm (Fa a k) n+pw n*Kq a k n=sm a n*k
 | 0=>by simp [sm,Kq]
 | n+1=>by
  have ih:=VC a k n
  have e:Fa a k n+1000000000*Kq a k (n+1)=a n*k+Kq a k n:=by
   simp only [Fa,Kq]; omega
  have e2:pw n*(Fa a k n+1000000000*Kq a k (n+1))=pw n*(a n*k+Kq a k n):=by rw [e]
  simp only [sm,pw]
  grind
def JU (a:List Int) (b:Int) (i:Nat):Int:=val (a.drop i) % b
def A5 (a:List Int) (b:Int) (i:Nat):Int:=(JU a b (i+1)*1000000000+a.getD i 0) / b
theorem GO (a:List Int) (b:Int) (i:Nat) (h:i<a.length):JU a b i=(JU a b (i+1)*1000000000+a.getD i 0) % b:=by
 unfold JU
 rw [Ki a i h]
 rw [Int.add_comm,Int.mul_comm,Int.add_emod,Int.mul_emod]
 conv=>rhs; rw [Int.add_emod,Int.mul_emod,Int.emod_emod_of_dvd _ (Int.dvd_refl b)]
theorem Lu (a:List Int) (b:Int):JU a b a.length=0:=by unfold JU; simp [val]
theorem DM {a:List Int} {b:Int} (ha:Jp a) (hb:0<b) (i:Nat):Q6 (A5 a b i):=by
 have h1:=Int.emod_nonneg (val (a.drop (i+1))) (show b≠0 by omega)
 have h2:=Int.emod_lt_of_pos (val (a.drop (i+1))) hb
 have h3:=Jv ha i
 unfold Q6 at *
 unfold A5 JU
 refine ⟨Int.ediv_nonneg (by omega) (by omega),Int.ediv_lt_of_lt_mul hb ?_⟩
 omega
theorem VV {a:List Int} {b:Int} (hb:0<b):∀ i,i≤a.length→val (a.drop (a.length - i))=b*val ((Az (A5 a b) a.length).drop (a.length - i))+JU a b (a.length - i)
 | 0,_=>by
  have e:(Az (A5 a b) a.length).drop a.length=[]:=by rw [List.drop_eq_nil_iff,Qc]; exact Nat.le_refl _
  simp [e,Lu,val]
 | i+1,h=>by
  have ih:=VV (a:=a) hb i (by omega)
  obtain ⟨k,hk⟩:∃ k,a.length - (i+1)=k:=⟨_,rfl⟩
  have hk1:a.length - i=k+1:=by omega
  rw [hk1] at ih
  rw [hk]
  rw [Ki a k (by omega),Ki (Az (A5 a b) a.length) k (by rw [Qc]; omega),Ca _ _ _ (show k<a.length by omega)]
  have e:=Int.mul_ediv_add_emod (JU a b (k+1)*1000000000+a.getD k 0) b
  have e2:=GO a b k (by omega)
  have e3:A5 a b k=(JU a b (k+1)*1000000000+a.getD k 0) / b:=rfl
  rw [← e3,← e2] at e
  grind
theorem Ow {a:List Int} {b:Int} (hb:0<b):val a=b*val (Az (A5 a b) a.length)+JU a b 0:=by
 have:=VV (a:=a) hb a.length (Nat.le_refl _)
 simpa using this
def zA (z:Int):AV:=.agg [.bool (decide (z<0)),X8 (Xb z.natAbs)]
theorem XJ (z:Int):Settled (zA z):=Ql (by simp [X7,X3])
theorem od:(!(true == false))=true:=Go.Ab.nrfl rfl
theorem oc:(!(false == true))=true:=Go.Ab.nrfl rfl
theorem oe:(!(true == true))=false:=Go.Ab.nrfl rfl
theorem oa:(!(false == false))=false:=Go.Ab.nrfl rfl
set_option linter.defProp false in
def wN:=And.intro od (And.intro oc (And.intro oe oa))
def Kv (neg:Bool) (v:Int):Int:=if neg=true then -v else v
theorem digs_len_zero {n:Nat}:(Xb n).length=0↔n=0:=by rw [List.length_eq_zero_iff,O9]
theorem og {l:List Int} (h:Jp l) (neg:Bool):zA (Kv neg (val l))=.agg [.bool (neg && decide (A9 l l.length≠0)),X8 (l.take (A9 l l.length))]:=by
 have h0:=XX h
 have e1:(Kv neg (val l)).natAbs=(val l).toNat:=by unfold Kv; split <;> omega
 have e2:=aX h
 have hle:=Wb l l.length
 have e3:A9 l l.length=0↔val l=0:=by
  have h1:(l.take (A9 l l.length)).length=A9 l l.length:=by rw [List.length_take,Nat.min_eq_left hle]
  rw [← h1,e2,digs_len_zero]; omega
 unfold zA
 rw [e1,e2]
 congr 3
 unfold Kv
 have h0':¬ val l<0:=by omega
 cases neg
 ·simp [h0']
 ·have:-val l<0↔¬ A9 l l.length=0:=by rw [e3]; omega
  simp only [if_true,Bool.true_and,decide_eq_decide]
  exact this
theorem IJ {d:Nat} (h0:d≠0) (h:d<1000000000):Xb d=[(d:Int)]:=by
 rw [AB h0,show d / 1000000000=0 by omega,XY,show d % 1000000000=d by omega]
theorem PE {d:Nat} (h0:1000000000≤d) (h:d<1000000000000000000):Xb d=[((d % 1000000000:Nat):Int),((d / 1000000000:Nat):Int)]:=by
 rw [AB (by omega),IJ (by omega) (by omega)]
theorem TM {d:Nat} (h0:1000000000000000000≤d) (h:d<18446744073709551616) :
  Xb d=[((d % 1000000000:Nat):Int),((d / 1000000000 % 1000000000:Nat):Int),((d / 1000000000 / 1000000000:Nat):Int)]:=by
 rw [AB (by omega),PE (by omega) (by omega)]
def dg (l:List Int):Nat→Int:=fun i=>l.getD i 0
theorem Qa {l:List Int} (h:Jp l) (i:Nat):Q6 (dg l i):=Jv h i
theorem GE {l:List Int} {i:Nat} (h:l.length≤i):dg l i=0:=by unfold dg; rw [List.getD_eq_getElem?_getD,List.getElem?_eq_none h]; rfl
theorem DW (l:List Int) (n:Nat) (h:l.length≤n):sm (dg l) n=val l:=qY l n h
def ZH (a b:List Int) (n:Nat):List Int:=Az (Ah (dg a) (dg b)) n ++ [Qi (dg a) (dg b) n]
theorem Nr (a b:List Int) (n:Nat) (ha:a.length≤n) (hb:b.length≤n):val (ZH a b n)=val a+val b:=by
 unfold ZH
 rw [DZ,Qc,Gp,NQ,DW a n ha,DW b n hb]
theorem Nq {a b:List Int} (ha:Jp a) (hb:Jp b) (n:Nat):Jp (ZH a b n):=by
 unfold ZH
 refine HV.2 ⟨CE fun i _=>P3 (Qa ha i) (Qa hb i),KL.2 ⟨?_,BR⟩⟩
 have:=Dk (dg a) (dg b) n
 unfold Q6; omega
theorem El (a b:List Int) (n:Nat):(ZH a b n).length=n+1:=by simp [ZH,Qc]
def Zd (a b:List Int):List Int:=Az (AX (dg a) (dg b)) a.length
theorem Bu {a b:List Int} (ha:Jp a) (hb:Jp b) (hl:b.length≤a.length) (h:val b≤val a):val (Zd a b)=val a - val b:=by
 unfold Zd
 have e:=W6 (n:=a.length) (fun i _=>Qa ha i) (fun i _=>Qa hb i) (by rw [DW b _ hl,DW a _ (Nat.le_refl _)]; exact h)
 have e2:=OM (dg a) (dg b) a.length
 rw [e,DW a _ (Nat.le_refl _),DW b _ hl] at e2
 rw [Gp]; omega
theorem Bt {a b:List Int} (ha:Jp a) (hb:Jp b):Jp (Zd a b):=CE fun i _=>Sz (Qa ha i) (Qa hb i)
def Jc (a b:List Int) (i:Nat):List Int:=Az (fun j=>if j<i then AX (dg a) (dg b) j else if j=i then dg a j - JN (dg a) (dg b) i else dg a j) a.length
theorem iF (l:List Int):Az (dg l) l.length=l:=by
 refine List.ext_getElem (by simp [Az]) fun i h1 h2=>?_
 simp [Az,dg,List.getD_eq_getElem?_getD,h2]
theorem Rv (a b:List Int):Jc a b 0=a:=by
 unfold Jc
 conv=>rhs; rw [← iF a]
 refine KB fun k _=>?_
 rw [if_neg (by omega)]
 split
 ·simp [JN]
 ·rfl
theorem Ua (a b:List Int):Jc a b a.length=Zd a b:=KB fun k hk=>by rw [if_pos hk]
theorem AM (f:Nat→Int) (n k:Nat) (x:Int) (h:k<n):(Az f n).set k x=Az (fun q=>if q=k then x else f q) n:=by
 refine List.ext_getElem (by simp [Az]) fun q h1 h2=>?_
 have hq:q<n:=by simpa [Qc] using h2
 by_cases e:k=q
 ·subst e; simp [Az]
 ·simp [Az,List.getElem_set,e,Ne.symm e]
end
end Go.Ab.N
namespace Go.Ab.N
open Go Go.Ab
open Classical
noncomputable section
theorem XV {l m:List AV} (h:WeakL l m):Weak (.agg l) (.agg m):=fun c v hv=>by
 cases hv with
 | agg vs _ hs hr =>
  have:=(jc h) c (.tuple vs) (.tup vs _ hs hr)
  cases this with
  | tup _ _ hs' hr'=>exact .agg vs m hs' hr'
theorem Qm (f:Nat→AV) (t:Bool):Weak (.sl 0 0 f t) (X8 []):=AN rfl (Nat.le_refl _) fun j hj=>by exact absurd hj (Nat.not_lt_zero j)
theorem ZP {n:Nat} {L:List AV} {l:List Int} {t:Bool} (hn:n=l.length) (h:L=l.map I):Weak (.sl n n (Xp L) t) (X8 l):=by
 subst hn; subst h; exact Gs l t
theorem MJ (L:List AV):∀ n off,off+n=L.length→Qn (Xp L) off 0 n=L.drop off:=by
 have key:∀ n off j,off+j+n=L.length→Qn (Xp L) off j n=L.drop (off+j):=by
  intro n
  induction n with
  | zero=>intro off j h; rw [List.drop_eq_nil_iff.2 (by omega)]; rfl
  | succ n ih =>
   intro off j h
   rw [List.drop_eq_getElem_cons (by omega)]
   simp only [Qn]
   rw [ih off (j+1) (by omega)]
   congr 1
   show L.getD (off+j) .any=_
   rw [List.getD_eq_getElem?_getD,List.getElem?_eq_getElem (by omega)]; rfl
 intro n off h
 rw [key n off 0 (by omega)]; rfl
theorem qS {P:Program} {fn:Func} {str hcs:List Nat} {r:AV} {s:AS} {t u id ver n:Nat} {L:List AV} (hr:fn.results=#[.cell t u]) (hk:BT P u=some (some n)) (hs:s.get t=.ref id ver 0)
  (ho:s.h[id]?=some (.row ver n (Xp L))) (hn:L.length=n) (h:JE s.h (.agg L) r):RetOk (QR P fn str hcs r) s:=by
 subst hn
 refine BB (v:=.agg L) hr ?_ h
 rw [hs,NY,hk,EU,ho,EV,qN,MJ L _ _ (by omega)]
 simp [Qj]
theorem Qh {P:Program} {fn:Func} {str hcs:List Nat} {r:AV} {s:AS} {t u id ver n:Nat} {L M:List AV} (hr:fn.results=#[.cell t u]) (hk:BT P u=some (some n)) (hs:s.get t=.ref id ver 0)
  (ho:s.h[id]?=some (.row ver n (Xp L))) (hn:L.length=n) (e:r=.agg M) (hset:Settled r) (h:WeakL L M):RetOk (QR P fn str hcs r) s:=by
 refine qS hr hk hs ho hn ?_
 subst e
 exact Xt hset (XV h)
end
end Go.Ab.N
namespace Go.Ab.N
open Go Go.RowKit Go.Proofs
theorem tG:BT Tryz.prog 3=some none:=by kernel_rfl
theorem r6:Z6 Tryz.prog 3=some 1:=by kernel_rfl
theorem tD:YP Tryz.prog 3=some .i64:=by kernel_rfl
theorem rl:QK Tryz.prog 3=some [.int .i64 0]:=by kernel_rfl
theorem tH:BT Tryz.prog 4=some none:=by kernel_rfl
theorem r7:Z6 Tryz.prog 4=some 1:=by kernel_rfl
theorem pz:IA Tryz.prog 4=true:=by kernel_rfl
theorem rn:QK Tryz.prog 4=some [.bool false]:=by kernel_rfl
theorem sv:BT Tryz.prog 22=some none:=by kernel_rfl
theorem mZ:Z6 Tryz.prog 22=some 1:=by kernel_rfl
theorem nW:AU Tryz.prog 22=some (3,1,8):=by kernel_rfl
theorem sw:BT Tryz.prog 23=some none:=by kernel_rfl
theorem s9:AU Tryz.prog 23=some (110,2,16):=by kernel_rfl
theorem sD:BT Tryz.prog 24=some none:=by kernel_rfl
theorem nc:Z6 Tryz.prog 24=some 1:=by kernel_rfl
theorem sa:AU Tryz.prog 24=some (4,1,1):=by kernel_rfl
theorem XS:BT Tryz.prog 26=some (some 2):=by kernel_rfl
theorem nd:Z6 Tryz.prog 26=some 2:=by kernel_rfl
theorem ld:Cd Tryz.prog 26 0=some (0,1,none):=by kernel_rfl
theorem kc:QP Tryz.prog 26 0=some (0,1):=by kernel_rfl
theorem lf:Cd Tryz.prog 26 1=some (1,1,none):=by kernel_rfl
theorem ke:QP Tryz.prog 26 1=some (1,1):=by kernel_rfl
theorem rP:AZ Tryz.prog 26=true:=by kernel_rfl
theorem nD:QK Tryz.prog 26=some [.bool false,.sl 0 0 (fun _=>.any) true]:=by kernel_rfl
theorem Qd:BT Tryz.prog 28=some (some 4):=by kernel_rfl
theorem nh:Z6 Tryz.prog 28=some 4:=by kernel_rfl
theorem lg:Cd Tryz.prog 28 0=some (0,2,some 2):=by kernel_rfl
theorem kf:QP Tryz.prog 28 0=some (0,2):=by kernel_rfl
theorem lh:Cd Tryz.prog 28 1=some (2,2,some 2):=by kernel_rfl
theorem kg:QP Tryz.prog 28 1=some (2,2):=by kernel_rfl
theorem rQ:AZ Tryz.prog 28=true:=by kernel_rfl
theorem nE:QK Tryz.prog 28=some [.bool false,.sl 0 0 (fun _=>.any) true,.bool false,.sl 0 0 (fun _=>.any) true]:=by kernel_rfl
theorem FM:BT Tryz.prog 30=some (some 25):=by kernel_rfl
theorem nk:Z6 Tryz.prog 30=some 25:=by kernel_rfl
theorem kh:QP Tryz.prog 30 0=some (0,1):=by kernel_rfl
theorem li:Cd Tryz.prog 30 1=some (1,1,none):=by kernel_rfl
theorem ki:QP Tryz.prog 30 1=some (1,1):=by kernel_rfl
theorem lj:Cd Tryz.prog 30 2=some (2,1,none):=by kernel_rfl
theorem kj:QP Tryz.prog 30 2=some (2,1):=by kernel_rfl
theorem lk:Cd Tryz.prog 30 3=some (3,1,none):=by kernel_rfl
theorem kl:QP Tryz.prog 30 3=some (3,1):=by kernel_rfl
theorem ll:Cd Tryz.prog 30 4=some (4,1,none):=by kernel_rfl
theorem ko:QP Tryz.prog 30 4=some (4,1):=by kernel_rfl
theorem lm:Cd Tryz.prog 30 5=some (5,4,some 4):=by kernel_rfl
theorem kp:QP Tryz.prog 30 5=some (5,4):=by kernel_rfl
theorem ln:Cd Tryz.prog 30 6=some (9,4,some 4):=by kernel_rfl
theorem kq:QP Tryz.prog 30 6=some (9,4):=by kernel_rfl
theorem ls:Cd Tryz.prog 30 7=some (13,4,some 4):=by kernel_rfl
theorem kr:QP Tryz.prog 30 7=some (13,4):=by kernel_rfl
theorem lu:Cd Tryz.prog 30 8=some (17,4,some 4):=by kernel_rfl
theorem ks:QP Tryz.prog 30 8=some (17,4):=by kernel_rfl
theorem lx:Cd Tryz.prog 30 9=some (21,4,some 4):=by kernel_rfl
theorem ku:QP Tryz.prog 30 9=some (21,4):=by kernel_rfl
theorem rR:AZ Tryz.prog 30=true:=by kernel_rfl
theorem nF:QK Tryz.prog 30=some [.int .i64 0,.int .i64 0,.sl 0 0 (fun _=>.any) true,.sl 0 0 (fun _=>.any) true,.sl 0 0 (fun _=>.any) true,.bool false,.sl 0 0 (fun _=>.any) true,.bool false,.sl 0 0 (fun _=>.any) true,.bool false,.sl 0 0 (fun _=>.any) true,.bool false,.sl 0 0 (fun _=>.any) true,.bool false,.sl 0 0 (fun _=>.any) true,.bool false,.sl 0 0 (fun _=>.any) true,.bool false,.sl 0 0 (fun _=>.any) true,.bool false,.sl 0 0 (fun _=>.any) true,.bool false,.sl 0 0 (fun _=>.any) true,.bool false,.sl 0 0 (fun _=>.any) true]:=by kernel_rfl
theorem sb:AU Tryz.prog 35=some (28,4,64):=by kernel_rfl
theorem DD:BT Tryz.prog 48=some (some 8):=by kernel_rfl
theorem nl:Z6 Tryz.prog 48=some 8:=by kernel_rfl
theorem lz:Cd Tryz.prog 48 0=some (0,4,some 4):=by kernel_rfl
theorem kv:QP Tryz.prog 48 0=some (0,4):=by kernel_rfl
theorem lC:Cd Tryz.prog 48 1=some (4,4,some 4):=by kernel_rfl
theorem kw:QP Tryz.prog 48 1=some (4,4):=by kernel_rfl
theorem rS:AZ Tryz.prog 48=true:=by kernel_rfl
theorem nG:QK Tryz.prog 48=some [.bool false,.sl 0 0 (fun _=>.any) true,.bool false,.sl 0 0 (fun _=>.any) true,.bool false,.sl 0 0 (fun _=>.any) true,.bool false,.sl 0 0 (fun _=>.any) true]:=by kernel_rfl
theorem Jq:BT Tryz.prog 50=some (some 8):=by kernel_rfl
theorem nm:Z6 Tryz.prog 50=some 8:=by kernel_rfl
theorem lD:Cd Tryz.prog 50 0=some (0,4,some 4):=by kernel_rfl
theorem kx:QP Tryz.prog 50 0=some (0,4):=by kernel_rfl
theorem lE:Cd Tryz.prog 50 1=some (4,4,some 4):=by kernel_rfl
theorem ky:QP Tryz.prog 50 1=some (4,4):=by kernel_rfl
theorem rT:AZ Tryz.prog 50=true:=by kernel_rfl
theorem nH:QK Tryz.prog 50=some [.bool false,.sl 0 0 (fun _=>.any) true,.bool false,.sl 0 0 (fun _=>.any) true,.bool false,.sl 0 0 (fun _=>.any) true,.bool false,.sl 0 0 (fun _=>.any) true]:=by kernel_rfl
theorem sE:BT Tryz.prog 52=some (some 29):=by kernel_rfl
theorem nn:Z6 Tryz.prog 52=some 29:=by kernel_rfl
theorem lF:Cd Tryz.prog 52 0=some (0,1,none):=by kernel_rfl
theorem lG:Cd Tryz.prog 52 1=some (1,1,none):=by kernel_rfl
theorem kz:QP Tryz.prog 52 1=some (1,1):=by kernel_rfl
theorem lH:Cd Tryz.prog 52 2=some (2,1,none):=by kernel_rfl
theorem kA:QP Tryz.prog 52 2=some (2,1):=by kernel_rfl
theorem lI:Cd Tryz.prog 52 3=some (3,1,none):=by kernel_rfl
theorem kB:QP Tryz.prog 52 3=some (3,1):=by kernel_rfl
theorem lJ:Cd Tryz.prog 52 4=some (4,1,none):=by kernel_rfl
theorem kC:QP Tryz.prog 52 4=some (4,1):=by kernel_rfl
theorem lK:Cd Tryz.prog 52 5=some (5,8,some 8):=by kernel_rfl
theorem kD:QP Tryz.prog 52 5=some (5,8):=by kernel_rfl
theorem lM:Cd Tryz.prog 52 6=some (13,8,some 8):=by kernel_rfl
theorem lN:Cd Tryz.prog 52 7=some (21,8,some 8):=by kernel_rfl
theorem rU:AZ Tryz.prog 52=true:=by kernel_rfl
theorem nI:QK Tryz.prog 52=some [.int .i64 0,.int .i64 0,.int .i64 0,.int .i64 0,.int .i64 0,.bool false,.sl 0 0 (fun _=>.any) true,.bool false,.sl 0 0 (fun _=>.any) true,.bool false,.sl 0 0 (fun _=>.any) true,.bool false,.sl 0 0 (fun _=>.any) true,.bool false,.sl 0 0 (fun _=>.any) true,.bool false,.sl 0 0 (fun _=>.any) true,.bool false,.sl 0 0 (fun _=>.any) true,.bool false,.sl 0 0 (fun _=>.any) true,.bool false,.sl 0 0 (fun _=>.any) true,.bool false,.sl 0 0 (fun _=>.any) true,.bool false,.sl 0 0 (fun _=>.any) true,.bool false,.sl 0 0 (fun _=>.any) true]:=by kernel_rfl
theorem Vv:BT Tryz.prog 54=some (some 79):=by kernel_rfl
theorem np:Z6 Tryz.prog 54=some 79:=by kernel_rfl
theorem lO:Cd Tryz.prog 54 0=some (0,25,some 25):=by kernel_rfl
theorem kE:QP Tryz.prog 54 0=some (0,25):=by kernel_rfl
theorem lP:Cd Tryz.prog 54 1=some (25,25,some 25):=by kernel_rfl
theorem kF:QP Tryz.prog 54 1=some (25,25):=by kernel_rfl
theorem lQ:Cd Tryz.prog 54 2=some (50,29,some 29):=by kernel_rfl
theorem rV:AZ Tryz.prog 54=true:=by kernel_rfl
theorem nJ:QK Tryz.prog 54=some [.int .i64 0,.int .i64 0,.sl 0 0 (fun _=>.any) true,.sl 0 0 (fun _=>.any) true,.sl 0 0 (fun _=>.any) true,.bool false,.sl 0 0 (fun _=>.any) true,.bool false,.sl 0 0 (fun _=>.any) true,.bool false,.sl 0 0 (fun _=>.any) true,.bool false,.sl 0 0 (fun _=>.any) true,.bool false,.sl 0 0 (fun _=>.any) true,.bool false,.sl 0 0 (fun _=>.any) true,.bool false,.sl 0 0 (fun _=>.any) true,.bool false,.sl 0 0 (fun _=>.any) true,.bool false,.sl 0 0 (fun _=>.any) true,.bool false,.sl 0 0 (fun _=>.any) true,.int .i64 0,.int .i64 0,.sl 0 0 (fun _=>.any) true,.sl 0 0 (fun _=>.any) true,.sl 0 0 (fun _=>.any) true,.bool false,.sl 0 0 (fun _=>.any) true,.bool false,.sl 0 0 (fun _=>.any) true,.bool false,.sl 0 0 (fun _=>.any) true,.bool false,.sl 0 0 (fun _=>.any) true,.bool false,.sl 0 0 (fun _=>.any) true,.bool false,.sl 0 0 (fun _=>.any) true,.bool false,.sl 0 0 (fun _=>.any) true,.bool false,.sl 0 0 (fun _=>.any) true,.bool false,.sl 0 0 (fun _=>.any) true,.bool false,.sl 0 0 (fun _=>.any) true,.int .i64 0,.int .i64 0,.int .i64 0,.int .i64 0,.int .i64 0,.bool false,.sl 0 0 (fun _=>.any) true,.bool false,.sl 0 0 (fun _=>.any) true,.bool false,.sl 0 0 (fun _=>.any) true,.bool false,.sl 0 0 (fun _=>.any) true,.bool false,.sl 0 0 (fun _=>.any) true,.bool false,.sl 0 0 (fun _=>.any) true,.bool false,.sl 0 0 (fun _=>.any) true,.bool false,.sl 0 0 (fun _=>.any) true,.bool false,.sl 0 0 (fun _=>.any) true,.bool false,.sl 0 0 (fun _=>.any) true,.bool false,.sl 0 0 (fun _=>.any) true,.bool false,.sl 0 0 (fun _=>.any) true]:=by kernel_rfl
theorem sF:BT Tryz.prog 57=some none:=by kernel_rfl
theorem nq:Z6 Tryz.prog 57=some 1:=by kernel_rfl
theorem sc:AU Tryz.prog 57=some (52,29,424):=by kernel_rfl
theorem nK:QK Tryz.prog 57=some [.sl 0 0 (fun _=>.any) true]:=by kernel_rfl
theorem sG:BT Tryz.prog 81=some none:=by kernel_rfl
theorem ns:Z6 Tryz.prog 81=some 1:=by kernel_rfl
theorem sd:AU Tryz.prog 81=some (50,8,128):=by kernel_rfl
theorem nL:QK Tryz.prog 81=some [.sl 0 0 (fun _=>.any) true]:=by kernel_rfl
theorem sH:BT Tryz.prog 84=some (some 16):=by kernel_rfl
theorem nt:Z6 Tryz.prog 84=some 16:=by kernel_rfl
theorem lS:Cd Tryz.prog 84 0=some (0,8,some 8):=by kernel_rfl
theorem kG:QP Tryz.prog 84 0=some (0,8):=by kernel_rfl
theorem lU:Cd Tryz.prog 84 1=some (8,8,some 8):=by kernel_rfl
theorem kH:QP Tryz.prog 84 1=some (8,8):=by kernel_rfl
theorem rW:AZ Tryz.prog 84=true:=by kernel_rfl
theorem nM:QK Tryz.prog 84=some [.bool false,.sl 0 0 (fun _=>.any) true,.bool false,.sl 0 0 (fun _=>.any) true,.bool false,.sl 0 0 (fun _=>.any) true,.bool false,.sl 0 0 (fun _=>.any) true,.bool false,.sl 0 0 (fun _=>.any) true,.bool false,.sl 0 0 (fun _=>.any) true,.bool false,.sl 0 0 (fun _=>.any) true,.bool false,.sl 0 0 (fun _=>.any) true]:=by kernel_rfl
theorem g9:BT Tryz.prog 110=some (some 2):=by kernel_rfl
theorem iI:Z6 Tryz.prog 110=some 2:=by kernel_rfl
theorem fu:Cd Tryz.prog 110 0=some (0,1,none):=by kernel_rfl
theorem dJ:QP Tryz.prog 110 0=some (0,1):=by kernel_rfl
theorem fw:Cd Tryz.prog 110 1=some (1,1,none):=by kernel_rfl
theorem dK:QP Tryz.prog 110 1=some (1,1):=by kernel_rfl
theorem pr:AZ Tryz.prog 110=true:=by kernel_rfl
theorem ji:QK Tryz.prog 110=some [.int .i64 0,.int .i64 0]:=by kernel_rfl
theorem qm:BT Tryz.prog 122=some (some 2):=by kernel_rfl
theorem iJ:Z6 Tryz.prog 122=some 2:=by kernel_rfl
theorem pM:AU Tryz.prog 122=none:=by kernel_rfl
theorem dM:QP Tryz.prog 122 0=some (0,1):=by kernel_rfl
theorem dN:QP Tryz.prog 122 1=some (1,1):=by kernel_rfl
theorem pt:AZ Tryz.prog 122=true:=by kernel_rfl
theorem ph:WS Tryz.prog 122=some (2,1,none):=by kernel_rfl
theorem jj:QK Tryz.prog 122=some [.int .i64 0,.int .i64 0]:=by kernel_rfl
theorem pN:AU Tryz.prog 123=some (122,2,16):=by kernel_rfl
theorem pO:AU Tryz.prog 148=some (48,8,128):=by kernel_rfl
theorem qf:YP Tryz.prog 187=some .u64:=by kernel_rfl
theorem qo:BT Tryz.prog 191=some none:=by kernel_rfl
theorem pP:AU Tryz.prog 191=some (81,1,24):=by kernel_rfl
theorem qg:YP Tryz.prog 197=some .u64:=by kernel_rfl
theorem pQ:AU Tryz.prog 241=some (244,3,24):=by kernel_rfl
theorem ga:BT Tryz.prog 244=some (some 3):=by kernel_rfl
theorem iK:Z6 Tryz.prog 244=some 3:=by kernel_rfl
theorem pR:AU Tryz.prog 244=none:=by kernel_rfl
theorem dO:QP Tryz.prog 244 0=some (0,1):=by kernel_rfl
theorem dP:QP Tryz.prog 244 1=some (1,1):=by kernel_rfl
theorem dS:QP Tryz.prog 244 2=some (2,1):=by kernel_rfl
theorem pu:AZ Tryz.prog 244=true:=by kernel_rfl
theorem pi:WS Tryz.prog 244=some (3,1,none):=by kernel_rfl
theorem jk:QK Tryz.prog 244=some [.int .i64 0,.int .i64 0,.int .i64 0]:=by kernel_rfl
theorem qp:BT Tryz.prog 249=some none:=by kernel_rfl
theorem fx:Cd Tryz.prog 252 0=some (0,1,none):=by kernel_rfl
theorem dT:QP Tryz.prog 252 0=some (0,1):=by kernel_rfl
theorem fy:Cd Tryz.prog 252 1=some (1,1,none):=by kernel_rfl
theorem pv:AZ Tryz.prog 252=true:=by kernel_rfl
theorem jl:QK Tryz.prog 252=some [.sl 0 0 (fun _=>.any) true,.sl 0 0 (fun _=>.any) true]:=by kernel_rfl
theorem Oe:BT Tryz.prog 255=some (some 1):=by kernel_rfl
theorem iL:Z6 Tryz.prog 255=some 1:=by kernel_rfl
theorem fz:Cd Tryz.prog 255 0=some (0,1,none):=by kernel_rfl
theorem jm:QK Tryz.prog 255=some [.sl 0 0 (fun _=>.any) true]:=by kernel_rfl
theorem mixed:Tryz.prog.follows .mixedOrders=true:=by kernel_rfl
theorem Fq {f:FuncId} {fn:Func} {body:Code} {args:List AV} {r:AV} (he:AP Tryz.prog f) (hf:Tryz.prog.funcs[f]?=some fn) (n0:Nat) (hid str hcs:List Nat) (hs:∀ a∈args,Settled a) (h:Run (QR Tryz.prog fn str hcs r) [.code body] (AS.start n0 hid args [])) (hb:fn.body=some body:=by rfl) (hok:Qx fn.ntmps str hcs body=true:=by kernel_rfl) (hlen:args.length≤fn.ntmps:=by exact Nat.le_of_ble_eq_true rfl):Fn Tryz.prog f args r:=Fn.intro he hf hb mixed n0 hid str hcs hok hlen hs h
set_option linter.defProp false in
def rk:=And.intro @tG <| And.intro @r6 <| And.intro @tD <| And.intro @rl <| And.intro @tH <| And.intro @r7 <| And.intro @pz <| And.intro @rn <| And.intro @sv <| And.intro @mZ <| And.intro @nW <| And.intro @sw <| And.intro @s9 <| And.intro @sD <| And.intro @nc <| And.intro @sa <| And.intro @XS <| And.intro @nd <| And.intro @ld <| And.intro @kc <| And.intro @lf <| And.intro @ke <| And.intro @rP <| And.intro @nD <| And.intro @Qd <| And.intro @nh <| And.intro @lg <| And.intro @kf <| And.intro @lh <| And.intro @kg <| And.intro @rQ <| And.intro @nE <| And.intro @FM <| And.intro @nk <| And.intro @kh <| And.intro @li <| And.intro @ki <| And.intro @lj <| And.intro @kj <| And.intro @lk <| And.intro @kl <| And.intro @ll <| And.intro @ko <| And.intro @lm <| And.intro @kp <| And.intro @ln <| And.intro @kq <| And.intro @ls <| And.intro @kr <| And.intro @lu <| And.intro @ks <| And.intro @lx <| And.intro @ku <| And.intro @rR <| And.intro @nF <| And.intro @sb <| And.intro @DD <| And.intro @nl <| And.intro @lz <| And.intro @kv <| And.intro @lC <| And.intro @kw <| And.intro @rS <| And.intro @nG <| And.intro @Jq <| And.intro @nm <| And.intro @lD <| And.intro @kx <| And.intro @lE <| And.intro @ky <| And.intro @rT <| And.intro @nH <| And.intro @sE <| And.intro @nn <| And.intro @lF <| And.intro @lG <| And.intro @kz <| And.intro @lH <| And.intro @kA <| And.intro @lI <| And.intro @kB <| And.intro @lJ <| And.intro @kC <| And.intro @lK <| And.intro @kD <| And.intro @lM <| And.intro @lN <| And.intro @rU <| And.intro @nI <| And.intro @Vv <| And.intro @np <| And.intro @lO <| And.intro @kE <| And.intro @lP <| And.intro @kF <| And.intro @lQ <| And.intro @rV <| And.intro @nJ <| And.intro @sF <| And.intro @nq <| And.intro @sc <| And.intro @nK <| And.intro @sG <| And.intro @ns <| And.intro @sd <| And.intro @nL <| And.intro @sH <| And.intro @nt <| And.intro @lS <| And.intro @kG <| And.intro @lU <| And.intro @kH <| And.intro @rW <| And.intro @nM <| And.intro @g9 <| And.intro @iI <| And.intro @fu <| And.intro @dJ <| And.intro @fw <| And.intro @dK <| And.intro @pr <| And.intro @ji <| And.intro @qm <| And.intro @iJ <| And.intro @pM <| And.intro @dM <| And.intro @dN <| And.intro @pt <| And.intro @ph <| And.intro @jj <| And.intro @pN <| And.intro @pO <| And.intro @qf <| And.intro @qo <| And.intro @pP <| And.intro @qg <| And.intro @pQ <| And.intro @ga <| And.intro @iK <| And.intro @pR <| And.intro @dO <| And.intro @dP <| And.intro @dS <| And.intro @pu <| And.intro @pi <| And.intro @jk <| And.intro @qp <| And.intro @fx <| And.intro @dT <| And.intro @fy <| And.intro @pv <| And.intro @jl <| And.intro @Oe <| And.intro @iL <| And.intro @fz <| @jm
set_option linter.defProp false in
def wA:=And.intro @tg <| And.intro @tf <| And.intro @te <| And.intro @beq_self_eq_true.{0} <| And.intro @ite_true.{1} <| And.intro @ite_false.{1} <| And.intro @false_implies <| And.intro @true_implies <| And.intro @implies_true.{1} <| And.intro @implies_true.{0} <| And.intro @eq_self.{1} <| And.intro @ne_eq.{1} <| @rk
end Go.Ab.N
namespace Go.Ab.N
open Go Go.RowKit Go.Proofs
noncomputable section
set_option maxRecDepth 10000
set_option maxHeartbeats 2000000
open Classical
def gC (neg:Bool) (l:List Int):AV:=.agg [.bool (neg && decide (A9 l l.length≠0)),X8 (l.take (A9 l l.length))]
theorem JX (neg:Bool) (l:List Int):Settled (gC neg l):=Ql (by simp [X7,X3])
theorem sJ (neg:Bool) (d:List Int) (hl:d.length<4611686018427387904):Fn Tryz.prog 208 [.bool neg,X8 d] (gC neg d):=by
 refine Fq Tryz.call208 Tryz.func208 6 [] [] [] (by simp [X7,X9,JV,Jn,X3,JW,XJ,JX,Jr]) (X0 1000 ?_); simp (config:={ maxSteps:=2000000 }) only [AS.start,↓X2,wA,seval,zA,wN]
 refine Xg (fun n:Nat=>⟨6,[],[.bool neg,X8 d,.any,.any,.ref 0 0 0,I n],[],[.row 0 2 (Xp [.bool false,.sl 0 0 (fun _=>.any) true])]⟩) (fun n=>n≤d.length∧A9 d d.length=A9 d n) (fun n=>n) d.length ⟨by omega,rfl⟩
  (Xa rfl (by simp [zA,wN,Xh,X8,Cm,ZT,Qt,I]) (by simp [Xi]) rfl) ?_
 rintro n ⟨hn,ht⟩ next
 cases n with
 | zero =>
  refine X0 1000 ?_
  simp only [Int.lt_irrefl,↓X2,wA,seval,zA,wN]
  refine BB (v:=.agg [.bool false,.sl 0 0 (fun _=>.any) false]) rfl (by simp [AS.get,JD,XS,rd,Qn,Xp,ZZ]) ?_
  have e:gC neg d=.agg [.bool false,X8 []]:=by unfold gC; rw [ht]; simp [A9]
  rw [e]
  exact Zr ⟨QI (X3 _) rfl,Xt (X7 _) (Qm _ _),trivial⟩
 | succ n =>
  have e0:(0<((n+1:Nat):Int))=True:=eq_true (by omega)
  have e1:(((n+1:Nat):Int)=0)=False:=eq_false (by omega)
  have w1:IntKind.i64.wrap (((n+1:Nat):Int) - 1)=(n:Int):=by rw [IntKind.wrap_i64]; omega
  have e2:(n<d.length)=True:=eq_true (by omega)
  refine X0 1000 ?_
  simp only [e0,e1,e2,w1,↓X2,wA,seval,zA,wN]
  refine ⟨fun h0=>next n _ ⟨by omega,by rw [ht]; simp only [A9]; rw [if_pos h0]⟩ (by omega) (Xa rfl (by simp [zA,wN,Xh,X8,Cm,ZT,Qt,I]) (by simp [Xi]) rfl),fun h0=>⟨by omega,?_⟩⟩
  have ht2:A9 d d.length=n+1:=by rw [ht]; simp only [A9]; rw [if_neg h0]
  have e:gC neg d=.agg [.bool neg,X8 (d.take (n+1))]:=by unfold gC; rw [ht2]; simp
  have hlen:(d.take (n+1)).length=n+1:=by rw [List.length_take]; omega
  rw [e]
  refine BB (v:=.agg [.bool neg,.sl (n+1) (n+1) (fun j=>.int .i64 (d.getD j 0)) false]) rfl ?_ ?_
  ·have m1:min (n+1) d.length=n+1:=by omega
   simp [AS.get,JD,XS,rd,Qn,Xp,ZZ,m1]
  ·refine Zr ⟨QI (X3 _) rfl,Xt (X7 _) (Gr _ hlen.symm (by omega) fun j hj=>?_),trivial⟩
   rw [hlen] at hj
   rw [Bi d 0 j (n+1) hj]; rfl
set_option linter.defProp false in
def K8:=And.intro @X7 (And.intro @X9 (And.intro @JV (And.intro @Jn (And.intro @X3 (And.intro @JW (And.intro @XJ (And.intro @JX @Jr)))))))
theorem jh (neg:Bool) {u:Int} (h:0≤u):zA (Kv neg u)=.agg [.bool (neg && decide (u≠0)),X8 (Xb u.toNat)]:=by
 unfold zA
 have e1:(Kv neg u).natAbs=u.toNat:=by unfold Kv; split <;> omega
 rw [e1]
 congr 3
 unfold Kv
 have h0':¬ u<0:=by omega
 cases neg
 ·simp [h0']
 ·have:-u<0↔¬ u=0:=by omega
  simp only [if_true,Bool.true_and,decide_eq_decide,ne_eq]
  exact this
def U (n:Int):AV:=.int .u64 n
theorem KW (neg:Bool) (u:Int) (h0:0≤u) (h1:u<18446744073709551616):Fn Tryz.prog 207 [.bool neg,.int .u64 u] (zA (Kv neg u)):=by
 obtain ⟨R,hR⟩:∃ R,R=zA (Kv neg u):=⟨_,rfl⟩
 have eR:=hR.trans (jh neg h0)
 have sR:Settled R:=hR▸XJ _
 have b1:u≠0→(neg && decide (u≠0))=neg:=fun h=>by simp [h]
 have w1:IntKind.i64.wrap (u.tmod 1000000000)=u % 1000000000:=by rw [IntKind.wrap_i64,Int.tmod_eq_emod_of_nonneg h0]; omega
 have w2:IntKind.u64.wrap (u.tdiv 1000000000)=u / 1000000000:=by rw [IntKind.wrap_u64,Int.tdiv_eq_ediv_of_nonneg h0]; omega
 have h2:0≤u / 1000000000:=by omega
 have w3:IntKind.i64.wrap (u / 1000000000)=u / 1000000000:=by rw [IntKind.wrap_i64]; omega
 have w4:IntKind.i64.wrap ((u / 1000000000).tmod 1000000000)=u / 1000000000 % 1000000000:=by rw [IntKind.wrap_i64,Int.tmod_eq_emod_of_nonneg h2]; omega
 have w5:IntKind.u64.wrap ((u / 1000000000).tdiv 1000000000)=u / 1000000000 / 1000000000:=by rw [IntKind.wrap_u64,Int.tdiv_eq_ediv_of_nonneg h2]; omega
 have w6:IntKind.i64.wrap (u / 1000000000 / 1000000000)=u / 1000000000 / 1000000000:=by rw [IntKind.wrap_i64]; omega
 rw [← hR]
 refine Fq Tryz.call207 Tryz.func207 6 [] [] [] (by simp [K8]) (X0 1000 ?_); simp (config:={ maxSteps:=2000000 }) only [AS.start,↓X2,wA,↓reduceIte,reduceIte,reduceCtorEq,Y1,Y2,Y3,Y4,Y5,Y6,Y7,Y8,Y9,YA,zA,wN]
 simp only [w1,w2,w3,w4,w5,w6]
 refine ⟨fun a=>?_,fun a0=>⟨fun a1=>?_,fun a1=>⟨fun a2=>⟨by omega,by omega,?_⟩,fun a2=>⟨by omega,by omega,by omega,by omega,by omega,?_⟩⟩⟩⟩
 ·rw [a,show (neg && decide ((0:Int)≠0))=false by simp,show (0:Int).toNat=0 from rfl,XY] at eR
  exact Qh rfl XS rfl rfl rfl eR sR ⟨Weak.rfl' _,Qm _ _,trivial⟩
 ·have w0:IntKind.i64.wrap u=u:=by rw [IntKind.wrap_i64]; omega
  rw [b1 a0,IJ (by omega) (by omega),Int.toNat_of_nonneg h0] at eR
  rw [w0]
  exact Qh rfl XS rfl rfl rfl eR sR ⟨Weak.rfl' _,ZP rfl rfl,trivial⟩
 ·rw [b1 a0,PE (by omega) (by omega)] at eR
  have e1:((u.toNat % 1000000000:Nat):Int)=u % 1000000000:=by omega
  have e2:((u.toNat / 1000000000:Nat):Int)=u / 1000000000:=by omega
  rw [e1,e2] at eR
  exact Qh rfl XS rfl rfl rfl eR sR ⟨Weak.rfl' _,ZP rfl rfl,trivial⟩
 ·rw [b1 a0,TM (by omega) (by omega)] at eR
  have e1:((u.toNat % 1000000000:Nat):Int)=u % 1000000000:=by omega
  have e2:((u.toNat / 1000000000 % 1000000000:Nat):Int)=u / 1000000000 % 1000000000:=by omega
  have e3:((u.toNat / 1000000000 / 1000000000:Nat):Int)=u / 1000000000 / 1000000000:=by omega
  rw [e1,e2,e3] at eR
  exact Qh rfl XS rfl rfl rfl eR sR ⟨Weak.rfl' _,ZP rfl rfl,trivial⟩
theorem Og (z:Int):Fn Tryz.prog 196 [zA z] (zA (-z)):=by
 have e:(-z).natAbs=z.natAbs:=by omega
 have e0:z.natAbs=0↔z=0:=by omega
 have e1:(Xb z.natAbs).length=0↔z=0:=digs_len_zero.trans e0
 refine Fq Tryz.call196 Tryz.func196 3 [] [] [] (by simp [K8]) (X0 1000 ?_); simp (config:={ maxSteps:=2000000 }) only [AS.start,↓X2,wA,↓reduceIte,reduceIte,reduceCtorEq,Y1,Y2,Y3,Y4,Y5,Y6,Y7,Y8,Y9,YA,zA,wN]
 refine ⟨fun h=>Qh rfl XS rfl rfl rfl rfl (XJ _) ?_,fun h=>Qh rfl XS rfl rfl rfl rfl (XJ _) ?_⟩
 ·rw [e]
  have:decide (-z<0)=decide (0<((Xb z.natAbs).length:Int)):=by rw [decide_eq_decide]; omega
  rw [this]
  exact ⟨Weak.rfl' _,Weak.rfl' _,trivial⟩
 ·rw [e,show decide (-z<0)=false from decide_eq_false (by omega)]
  exact ⟨Weak.rfl' _,Weak.rfl' _,trivial⟩
theorem mQ (z:Int):Fn Tryz.prog 155 [zA z] (I z.sign):=by
 have e0:z.natAbs=0↔z=0:=by omega
 have e1:(Xb z.natAbs).length=0↔z=0:=digs_len_zero.trans e0
 refine Fq Tryz.call155 Tryz.func155 4 [] [] [] (by simp [K8]) (X0 1000 ?_); simp (config:={ maxSteps:=2000000 }) only [AS.start,↓X2,wA,↓reduceIte,reduceIte,reduceCtorEq,Y1,Y2,Y3,Y4,Y5,Y6,Y7,Y8,Y9,YA,zA,wN]
 refine ⟨fun h=>Xu rfl rfl (X9 _) ?_,fun h=>⟨fun h2=>Xu rfl rfl (X9 _) ?_,fun h2=>Xu rfl rfl (X9 _) ?_⟩⟩
 ·rw [Int.sign_eq_neg_one_of_neg h]; rfl
 ·rw [e1.1 (by omega)]; rfl
 ·rw [Int.sign_eq_one_of_pos (by omega)]; rfl
theorem OQ (d:List Int) (h:Jp d):Fn Tryz.prog 226 [X8 d] (.tup [I (if d.length≤2 then val d else 0),.bool (decide (d.length≤2))]):=by
 have k2:¬ d.length≤2→I 0=I (if d.length≤2 then val d else 0)∧AV.bool false=.bool (decide (d.length≤2)):=fun h=>by simp [h]
 have k1:d.length≤2→∀ x,x=val d→I x=I (if d.length≤2 then val d else 0)∧AV.bool true=.bool (decide (d.length≤2)):=fun h x hx=>by simp [h,hx]
 refine Fq Tryz.call226 Tryz.func226 4 [5] [] [] (by simp [K8]) (X0 1000 ?_); simp (config:={ maxSteps:=2000000 }) only [AS.start,↓X2,wA,↓reduceIte,reduceIte,reduceCtorEq,Y1,Y2,Y3,Y4,Y5,Y6,Y7,Y8,Y9,YA,zA,wN]
 have fin:∀ {s:AS} {x:Int},s.get 2=I x→s.get 3=.bool true→d.length≤2→x=val d→RetOk (QR Tryz.prog Tryz.f226 [] [] (.tup [I (if d.length≤2 then val d else 0),.bool (decide (d.length≤2))])) s:=fun h1 h2 hl hx =>
  S8 rfl h1 h2 (X9 _) (X3 _) (k1 hl _ hx).1 (k1 hl _ hx).2
 refine ⟨fun a=>fin rfl rfl (by omega) ?_,fun a0=>⟨fun a=>⟨by omega,by omega,fin rfl rfl (by omega) ?_⟩,fun a1=>⟨fun a=>⟨⟨by omega,by omega⟩,by omega,by omega,by omega,fin rfl rfl (by omega) ?_⟩,fun a2=>S8 rfl rfl rfl (X9 _) (X3 _) (k2 (by omega)).1 (k2 (by omega)).2⟩⟩⟩
 ·obtain rfl:d=[]:=List.length_eq_zero_iff.1 (by omega)
  rfl
 ·obtain ⟨x,rfl⟩:=List.length_eq_one_iff.1 (show d.length=1 by omega)
  simp [val]
 ·obtain ⟨x,y,rfl⟩:∃ x y,d=[x,y]:=by
   match d,a with
   | [x,y],_=>exact ⟨x,y,rfl⟩
   | [],h=>exact absurd h (by simp)
   | [_],h=>exact absurd h (by simp)
   | _ :: _ :: _ :: _,h=>exact absurd h (by simp; omega)
  have h1:=h x (by simp)
  have h2:=h y (by simp)
  unfold Q6 at h1 h2
  simp only [List.getD_cons_zero,List.getD_cons_succ,val,IntKind.wrap_i64]
  omega
theorem Rj (a:Int):Fn Tryz.prog 267 [I a] (.bool false):=by
 refine Fq Tryz.call267 Tryz.func267 3 [] [] [] (by simp [K8]) (X0 1000 ?_); simp (config:={ maxSteps:=2000000 }) only [AS.start,↓X2,wA,↓reduceIte,reduceIte,reduceCtorEq,Y1,Y2,Y3,Y4,Y5,Y6,Y7,Y8,Y9,YA,zA,wN]
 exact Xu rfl rfl (X3 _) rfl
theorem Vb (a b:Int):Fn Tryz.prog 249 [I a,I b] (I (a - b).sign):=by
 refine Fq Tryz.call249 Tryz.func249 7 [] [] [] (by simp [K8]) (X0 1000 ?_); simp (config:={ maxSteps:=2000000 }) only [AS.start,↓X2,wA,↓reduceIte,reduceIte,reduceCtorEq,Y1,Y2,Y3,Y4,Y5,Y6,Y7,Y8,Y9,YA,zA,wN]
 refine X1 (Rj a) rfl ?_
 simp only [↓X2,wA,↓reduceIte,reduceIte,reduceCtorEq,Y1,Y2,Y3,Y4,Y5,Y6,Y7,Y8,Y9,YA,zA,wN]
 refine X1 (Rj b) rfl ?_
 simp only [↓X2,wA,↓reduceIte,reduceIte,reduceCtorEq,Y1,Y2,Y3,Y4,Y5,Y6,Y7,Y8,Y9,YA,zA,wN]
 refine ⟨fun h=>Xu rfl rfl (X9 _) ?_,fun h=>⟨fun h2=>Xu rfl rfl (X9 _) ?_,fun h2=>Xu rfl rfl (X9 _) ?_⟩⟩
 ·rw [Int.sign_eq_neg_one_of_neg (by omega)]; rfl
 ·rw [Int.sign_eq_one_of_pos (by omega)]; rfl
 ·rw [show a - b=0 by omega]; rfl
theorem eg {a b:List Int} (ha:Jp a) (hb:Jp b) (hl:a.length=b.length) {i:Nat} (hi:i<a.length) (he:a.drop (i+1)=b.drop (i+1)) (hne:a.getD i 0≠b.getD i 0) :
  (val a - val b).sign=(a.getD i 0 - b.getD i 0).sign:=by
 rw [Ju a i (by omega),Ju b i (by omega),Ki a i hi,Ki b i (by omega),he]
 have h1:=XX (QJ ha i)
 have h2:=XX (QJ hb i)
 have h3:=Zg (QJ ha i)
 have h4:=Zg (QJ hb i)
 have e1:(a.take i).length=i:=by rw [List.length_take]; omega
 have e2:(b.take i).length=i:=by rw [List.length_take]; omega
 rw [e1] at h3
 rw [e2] at h4
 generalize val (a.take i)=p at *
 generalize val (b.take i)=q at *
 generalize val (b.drop (i+1))=r at *
 generalize a.getD i 0=x at *
 generalize b.getD i 0=y at *
 have hp:=JQ i
 generalize pw i=P at *
 have e:p+P*(x+1000000000*r) - (q+P*(y+1000000000*r))=(p - q)+P*(x - y):=by grind
 rw [e]
 rcases Int.lt_or_gt_of_ne hne with h | h
 ·rw [Int.sign_eq_neg_one_of_neg (show x - y<0 by omega)]
  have:P*(x - y)≤P*(-1):=Int.mul_le_mul_of_nonneg_left (by omega) (by omega)
  exact Int.sign_eq_neg_one_of_neg (by omega)
 ·rw [Int.sign_eq_one_of_pos (show 0<x - y by omega)]
  have:P*1≤P*(x - y):=Int.mul_le_mul_of_nonneg_left (by omega) (by omega)
  exact Int.sign_eq_one_of_pos (by omega)
theorem Dp {a b:List Int} (ha:ZW a) (hb:ZW b) (h:a.length<b.length):val a<val b:=by
 have h1:=Zg ha.1
 have hne:b≠[]:=fun e=>by rw [e] at h; simp at h
 have h2:=Cj hb hne
 have h3:=CP (show a.length≤b.length - 1 by omega)
 omega
theorem FA {a b:List Int} (hl:a.length=b.length) {i:Nat} (hi:i<a.length) (he:a.drop (i+1)=b.drop (i+1)) (h:a.getD i 0=b.getD i 0):a.drop i=b.drop i:=by
 have hi2:i<b.length:=by omega
 rw [List.drop_eq_getElem_cons hi,List.drop_eq_getElem_cons hi2,he]
 rw [List.getD_eq_getElem?_getD,List.getElem?_eq_getElem hi,List.getD_eq_getElem?_getD,List.getElem?_eq_getElem hi2] at h
 simp only [Option.getD_some] at h
 rw [h]
theorem CC (a b:List Int) (ha:ZW a) (hb:ZW b) (la:a.length<4611686018427387904):Fn Tryz.prog 215 [X8 a,X8 b] (I (val a - val b).sign):=by
 have hc:a.length≠b.length→Fn Tryz.prog 249 [I a.length,I b.length] (I (val a - val b).sign):=fun h=>by
  have e:((a.length:Int) - b.length).sign=(val a - val b).sign:=by
   rcases Nat.lt_or_gt_of_ne h with h' | h'
   ·have:=Dp ha hb h'
    rw [Int.sign_eq_neg_one_of_neg (by omega),Int.sign_eq_neg_one_of_neg (by omega)]
   ·have:=Dp hb ha h'
    rw [Int.sign_eq_one_of_pos (by omega),Int.sign_eq_one_of_pos (by omega)]
  rw [← e]; exact Vb _ _
 refine Fq Tryz.call215 Tryz.func215 6 [] [] [] (by simp [K8]) (X0 1000 ?_); simp (config:={ maxSteps:=2000000 }) only [AS.start,↓X2,wA,seval,zA,wN]
 refine ⟨fun h=>X1 (hc h) rfl ?_,fun hl=>?_⟩
 ·simp only [↓X2,wA,seval,zA,wN]
  exact Xu rfl rfl (X9 _) rfl
 refine Xg (fun k:Nat=>⟨6,[],[X8 a,X8 b,.any,.any,I 0,I ((k:Int) - 1)],[],[]⟩) (fun k=>k≤a.length∧a.drop k=b.drop k) (fun k=>k) a.length ⟨by omega,by rw [List.drop_length,hl,List.drop_length]⟩
  ?_ ?_
 ·have w0:IntKind.i64.wrap ((a.length:Int) - 1)=(a.length:Int) - 1:=by rw [IntKind.wrap_i64]; omega
  rw [w0]
  exact (Xa rfl (by simp [zA,wN,Xh,X8,Cm,ZT,Qt,I]) (by simp [Xi]) rfl)
 rintro k ⟨hk,he⟩ next
 cases k with
 | zero =>
  refine X0 1000 ?_
  have e0:(0≤((0:Nat):Int) - 1)=False:=eq_false (by omega)
  have e1:((0:Int)≤0 - 1)=False:=eq_false (by omega)
  simp only [e0,e1,↓X2,wA,seval,zA,wN]
  refine Xu rfl rfl (X9 _) ?_
  rw [List.drop_zero,List.drop_zero] at he
  rw [he,Int.sub_self]; rfl
 | succ k =>
  have e1:((k+1:Nat):Int) - 1=(k:Int):=by omega
  have w1:IntKind.i64.wrap ((k:Int) - 1)=(k:Int) - 1:=by rw [IntKind.wrap_i64]; omega
  have e2:((k:Int)<a.length)=True:=eq_true (by omega)
  have e3:(k<a.length)=True:=eq_true (by omega)
  have e4:(k<b.length)=True:=eq_true (by omega)
  have hcm:a.getD k 0≠b.getD k 0→Fn Tryz.prog 249 [I (a.getD k 0),I (b.getD k 0)] (I (val a - val b).sign):=fun h=>by
   rw [eg ha.1 hb.1 hl (by omega) he h]; exact Vb _ _
  refine X0 1000 ?_
  simp only [e1,w1,e3,e4,↓X2,wA,seval,zA,wN]
  refine ⟨fun h=>X1 (hcm h) rfl ?_,fun h=>next k _ ⟨by omega,FA hl (by omega) he h⟩ (by omega) (Xa rfl (by simp [zA,wN,Xh,X8,Cm,ZT,Qt,I]) (by simp [Xi]) rfl)⟩
  simp only [↓X2,wA,seval,zA,wN]
  exact Xu rfl rfl (X9 _) rfl
theorem Fc (n:Int) (h:ZY n):Fn Tryz.prog 148 [I n] (zA n):=by
 obtain ⟨R,hR⟩:∃ R,R=zA n:=⟨_,rfl⟩
 have sR:Settled R:=hR▸XJ _
 unfold ZY at h
 have c1:n<0→Fn Tryz.prog 207 [.bool (decide (n<0)),.int .u64 (IntKind.u64.wrap (0 - IntKind.u64.wrap n))] R:=fun h1=>by
  have e:IntKind.u64.wrap (0 - IntKind.u64.wrap n) = -n:=by rw [IntKind.wrap_u64,IntKind.wrap_u64]; omega
  have e2:Kv (decide (n<0)) (-n)=n:=by unfold Kv; rw [if_pos (decide_eq_true h1)]; omega
  have:=KW (decide (n<0)) (-n) (by omega) (by omega)
  rw [e2] at this
  rw [e,hR]; exact this
 have c2:¬ n<0→Fn Tryz.prog 207 [.bool (decide (n<0)),.int .u64 (IntKind.u64.wrap n)] R:=fun h1=>by
  have e:IntKind.u64.wrap n=n:=by rw [IntKind.wrap_u64]; omega
  have e2:Kv (decide (n<0)) n=n:=by unfold Kv; rw [if_neg (by simp; omega)]
  have:=KW (decide (n<0)) n (by omega) (by omega)
  rw [e2] at this
  rw [e,hR]; exact this
 rw [← hR]
 refine Fq Tryz.call148 Tryz.func148 4 [] [] [] (by simp [K8]) (X0 1000 ?_); simp (config:={ maxSteps:=2000000 }) only [AS.start,↓X2,wA,seval,zA,wN]
 refine ⟨fun h1=>X1 (c1 h1) rfl ?_,fun h1=>X1 (c2 h1) rfl ?_⟩
 ·simp only [hR,↓X2,wA,seval,zA,wN]
  exact Qh rfl XS rfl rfl rfl hR sR ⟨Weak.rfl' _,Weak.rfl' _,trivial⟩
 ·simp only [hR,↓X2,wA,seval,zA,wN]
  exact Qh rfl XS rfl rfl rfl hR sR ⟨Weak.rfl' _,Weak.rfl' _,trivial⟩
end
end Go.Ab.N
