/- Contracts of functions of these chapters, for every argument that fits, and what they need. -/
import Derived.Test.YtefjhgcndhepeaaGreatAb4
import Derived.Test.YtefjhgcndhepeaaGreatRows
import Derived.KernelRfl
set_option linter.unusedSimpArgs false
set_option linter.unusedVariables false
open Nat renaming reducePow → Y1, reduceLT → Y2, reduceLeDiff → Y3, reduceEqDiff → Y4, reduceAdd → Y5, reduceMul → Y6, reduceSub → Y7, reduceBEq → Y8, reduceDiv → Y9, reduceMod → YA
namespace Go.Ab.N
open Go.Ab
open Classical
noncomputable section
def pw:Nat→Int
 | 0=>1
 | n+1=>1000000000*pw n
theorem JV:∀ n,0<pw n
 | 0=>by simp [pw]
 | n+1=>by have:=JV n; simp only [pw]; omega
theorem Ff (m n:Nat):pw (m+n)=pw m*pw n:=by
 induction m with
 | zero=>simp [pw]
 | succ m ih=>rw [show m+1+n=(m+n)+1 by omega]; simp only [pw]; rw [ih,Int.mul_assoc]
theorem CY {m n:Nat} (h:m≤n):pw m≤pw n:=by
 obtain ⟨k,rfl⟩:=Nat.exists_eq_add_of_le h
 induction k with
 | zero=>exact Int.le_refl _
 | succ k ih =>
  have h1:=ih (by omega)
  have h2:=JV (m+k)
  rw [show m+(k+1)=(m+k)+1 by omega]
  simp only [pw]; omega
def val:List Int→Int
 | []=>0
 | d :: l=>d+1000000000*val l
def Q3 (d:Int):Prop:=0≤d∧d<1000000000
def Jm (l:List Int):Prop:=∀ d∈l,Q3 d
def ZW (l:List Int):Prop:=Jm l∧(l≠[]→l.getD (l.length - 1) 0≠0)
theorem C2:Jm []:=fun _ h=>by cases h
theorem KM {d:Int} {l:List Int}:Jm (d :: l)↔Q3 d∧Jm l:=by unfold Jm; simp
theorem Ih {l m:List Int}:Jm (l ++ m)↔Jm l∧Jm m:=by
 unfold Jm
 constructor
 ·exact fun h=>⟨fun d hd=>h d (List.mem_append_left _ hd),fun d hd=>h d (List.mem_append_right _ hd)⟩
 ·rintro ⟨h1,h2⟩ d hd
  rcases List.mem_append.1 hd with h | h
  ·exact h1 d h
  ·exact h2 d h
theorem Jv {l:List Int} (h:Jm l) (i:Nat):Q3 (l.getD i 0):=by
 by_cases hi:i<l.length
 ·exact h _ (JC hi)
 ·rw [List.getD_eq_getElem?_getD,List.getElem?_eq_none (by omega)]; exact ⟨by simp,by simp⟩
theorem QN {l:List Int} (h:Jm l) (n:Nat):Jm (l.take n):=fun d hd=>h d (List.mem_of_mem_take hd)
theorem N6 {l:List Int} (h:∀ i,i<l.length→Q3 (l.getD i 0)):Jm l:=by
 intro d hd
 obtain ⟨i,hi,rfl⟩:=List.getElem_of_mem hd
 have:=h i hi
 rwa [List.getD_eq_getElem?_getD,List.getElem?_eq_getElem hi] at this
theorem XT {l:List Int} (h:Jm l):0≤val l:=by
 induction l with
 | nil=>exact Int.le_refl 0
 | cons d l ih =>
  obtain ⟨h1,h2⟩:=KM.1 h
  have:=ih h2
  simp only [val]; unfold Q3 at h1; omega
theorem Zi {l:List Int} (h:Jm l):val l<pw l.length:=by
 induction l with
 | nil=>simp [val,pw]
 | cons d l ih =>
  obtain ⟨h1,h2⟩:=KM.1 h
  have:=ih h2
  simp only [val,List.length_cons,pw]; unfold Q3 at h1; omega
theorem P7 (l m:List Int):val (l ++ m)=val l+pw l.length*val m:=by
 induction l with
 | nil=>simp [val,pw]
 | cons d l ih =>
  simp only [List.cons_append,val,List.length_cons,pw]
  rw [ih,Int.mul_add,Int.mul_assoc]; omega
theorem DX (l:List Int) (x:Int):val (l ++ [x])=val l+pw l.length*x:=by
 rw [P7]; simp [val]
theorem Jk (l:List Int) (i:Nat) (h:i<l.length):val (l.take (i+1))=val (l.take i)+pw i*l.getD i 0:=by
 rw [Qq l 0 i h,DX,List.length_take,Nat.min_eq_left (by omega)]
theorem Eu (n:Nat):val (List.replicate n 0)=0:=by
 induction n with
 | zero=>rfl
 | succ n ih=>simp [List.replicate_succ,val,ih]
theorem Cp {l:List Int} (h:ZW l) (hne:l≠[]):pw (l.length - 1)≤val l:=by
 have hl:=h.2 hne
 have hlen:0<l.length:=List.length_pos_iff.2 hne
 have e:=Jk l (l.length - 1) (by omega)
 rw [show l.length - 1+1=l.length by omega,List.take_length] at e
 have h1:=XT (QN h.1 (l.length - 1))
 have h2:=Jv h.1 (l.length - 1)
 have h3:=JV (l.length - 1)
 have h4:pw (l.length - 1)*1≤pw (l.length - 1)*l.getD (l.length - 1) 0:=Int.mul_le_mul_of_nonneg_left (by unfold Q3 at h2; omega) (by omega)
 omega
theorem Iz:∀ {a b:List Int},Jm a→Jm b→a.length=b.length→val a=val b→a=b
 | [],[],_,_,_,_=>rfl
 | [],_ :: _,_,_,h,_=>by simp at h
 | _ :: _,[],_,_,h,_=>by simp at h
 | x :: a,y :: b,ha,hb,hl,hv=>by
  obtain ⟨h1,h2⟩:=KM.1 ha
  obtain ⟨h3,h4⟩:=KM.1 hb
  simp only [val] at hv
  unfold Q3 at h1 h3
  have hxy:x=y:=by omega
  have hv':val a=val b:=by omega
  rw [hxy,Iz h2 h4 (by simpa using hl) hv']
theorem YB {a b:List Int} (ha:ZW a) (hb:ZW b) (h:val a=val b):a=b:=by
 have key:∀ {a b:List Int},ZW a→ZW b→val a=val b→a.length≤b.length→a=b:=by
  intro a b ha hb h hl
  by_cases e:a.length=b.length
  ·exact Iz ha.1 hb.1 e h
  ·exfalso
   have hne:b≠[]:=fun e'=>by
    have:b.length=0:=by rw [e']; rfl
    omega
   have h1:=Cp hb hne
   have h2:=Zi ha.1
   have h3:=CY (show a.length≤b.length - 1 by omega)
   omega
 rcases Nat.le_total a.length b.length with hl | hl
 ·exact key ha hb h hl
 ·exact (key hb ha h.symm hl).symm
def Xb (n:Nat):List Int:=if h:n=0 then [] else ((n % 1000000000:Nat):Int) :: Xb (n / 1000000000)
termination_by n
decreasing_by omega
theorem Q2:Xb 0=[]:=by rw [Xb]; simp
theorem AM {n:Nat} (h:n≠0):Xb n=((n % 1000000000:Nat):Int) :: Xb (n / 1000000000):=by rw [Xb]; simp [h]
theorem XA (n:Nat):val (Xb n)=n:=by
 induction n using Nat.strongRecOn with
 | ind n ih =>
  by_cases h:n=0
  ·subst h; rw [Q2]; rfl
  ·rw [AM h]
   simp only [val]
   rw [ih (n / 1000000000) (by omega)]; omega
theorem XJ (n:Nat):Jm (Xb n):=by
 induction n using Nat.strongRecOn with
 | ind n ih =>
  by_cases h:n=0
  ·subst h; rw [Q2]; exact C2
  ·rw [AM h]
   exact KM.2 ⟨⟨by omega,by omega⟩,ih _ (by omega)⟩
theorem Ii {n:Nat} (h:n≠0):Xb n≠[]:=by rw [AM h]; simp
theorem Ot {n:Nat}:Xb n=[]↔n=0:=⟨fun h=>Classical.byContradiction fun e=>Ii e h,fun h=>by rw [h]; exact Q2⟩
theorem XO (n:Nat):ZW (Xb n):=by
 refine ⟨XJ n,?_⟩
 induction n using Nat.strongRecOn with
 | ind n ih =>
  intro hne
  by_cases h:n=0
  ·subst h; exact absurd Q2 hne
  ·rw [AM h]
   by_cases h2:n / 1000000000=0
   ·rw [h2,Q2]; simp; omega
   ·have hn:=Ii h2
    have:=ih (n / 1000000000) (by omega) hn
    obtain ⟨k,hk⟩:∃ k,(Xb (n / 1000000000)).length=k+1:=⟨(Xb (n / 1000000000)).length - 1,by have:=List.length_pos_iff.2 hn; omega⟩
    simp only [List.length_cons,hk,Nat.add_sub_cancel] at this ⊢
    simpa using this
theorem AE {l:List Int} (h:ZW l):Xb (val l).toNat=l:=by
 refine YB (XO _) h ?_
 rw [XA]
 have:=XT h.1
 omega
theorem oG {l:List Int} (h:Jm l):((val l).toNat:Int)=val l:=Int.toNat_of_nonneg (XT h)
def A8 (l:List Int):Nat→Nat
 | 0=>0
 | n+1=>if l.getD n 0=0 then A8 l n else n+1
theorem Wr (l:List Int):∀ n,A8 l n≤n
 | 0=>Nat.le_refl _
 | n+1=>by
  simp only [A8]
  split
  ·exact Nat.le_succ_of_le (Wr l n)
  ·exact Nat.le_refl _
theorem SY {l:List Int}:∀ n,n≤l.length→val (l.take (A8 l n))=val (l.take n)
 | 0,_=>rfl
 | n+1,h=>by
  simp only [A8]
  split
  ·rename_i e
   rw [SY n (by omega),Jk l n h,e]; simp
  ·rfl
theorem V3 {l:List Int} (h:Jm l) (n:Nat) (hn:n≤l.length):ZW (l.take (A8 l n)):=by
 refine ⟨QN h _,fun hne=>?_⟩
 induction n with
 | zero=>simp [A8] at hne
 | succ n ih =>
  simp only [A8] at hne ⊢
  split
  ·rename_i e; rw [if_pos e] at hne; exact ih (by omega) hne
  ·rename_i e
   rw [List.length_take,Nat.min_eq_left hn,Nat.add_sub_cancel,Bm l 0 n (n+1) (by omega)]
   exact e
theorem bP {l:List Int} (h:Jm l):l.take (A8 l l.length)=Xb (val l).toNat:=by
 have h1:=V3 h l.length (Nat.le_refl _)
 rw [← AE h1,SY _ (Nat.le_refl _),List.take_length]
def sm (f:Nat→Int):Nat→Int
 | 0=>0
 | n+1=>sm f n+pw n*f n
def AJ (f:Nat→Int) (n:Nat):List Int:=(List.range n).map f
theorem Q8 (f:Nat→Int) (n:Nat):(AJ f n).length=n:=by simp [AJ]
theorem DW (f:Nat→Int) (n:Nat):AJ f (n+1)=AJ f n ++ [f n]:=by simp [AJ,List.range_succ]
theorem Cj (f:Nat→Int) (n i:Nat) (h:i<n):(AJ f n).getD i 0=f i:=by simp [AJ,List.getD_eq_getElem?_getD,h]
theorem KC {f f':Nat→Int} {n:Nat} (h:∀ k,k<n→f k=f' k):AJ f n=AJ f' n:=List.map_congr_left fun k hk=>h k (by simpa using hk)
theorem Gu (f:Nat→Int):∀ n,val (AJ f n)=sm f n
 | 0=>rfl
 | n+1=>by rw [DW,DX,Q8,Gu f n]; rfl
theorem Wk (l:List Int):∀ n,n≤l.length→sm (fun i=>l.getD i 0) n=val (l.take n)
 | 0,_=>rfl
 | n+1,h=>by rw [Jk l n h,← Wk l n (by omega)]; rfl
theorem se (l:List Int) (n:Nat) (h:l.length≤n):sm (fun i=>l.getD i 0) n=val l:=by
 obtain ⟨k,rfl⟩:=Nat.exists_eq_add_of_le h
 induction k with
 | zero=>rw [Nat.add_zero,Wk l _ (Nat.le_refl _),List.take_length]
 | succ k ih =>
  rw [show l.length+(k+1)=(l.length+k)+1 by omega]
  simp only [sm]
  rw [ih (by omega)]
  have:l.getD (l.length+k) 0=0:=by rw [List.getD_eq_getElem?_getD,List.getElem?_eq_none (by omega)]; rfl
  rw [this]; simp
theorem CO {f:Nat→Int} {n:Nat} (h:∀ i,i<n→Q3 (f i)):Jm (AJ f n):=by
 refine N6 fun i hi=>?_
 rw [Q8] at hi
 rw [Cj _ _ _ hi]; exact h i hi
def Qf (a b:Nat→Int):Nat→Int
 | 0=>0
 | i+1=>if 1000000000≤a i+b i+Qf a b i then 1 else 0
def Aj (a b:Nat→Int) (i:Nat):Int:=if 1000000000≤a i+b i+Qf a b i then a i+b i+Qf a b i - 1000000000 else a i+b i+Qf a b i
theorem Dp (a b:Nat→Int):∀ i,Qf a b i=0∨Qf a b i=1
 | 0=>.inl rfl
 | i+1=>by simp only [Qf]; split <;> simp
theorem Pf {a b:Nat→Int} {i:Nat} (ha:Q3 (a i)) (hb:Q3 (b i)):Q3 (Aj a b i):=by
 have:=Dp a b i
 unfold Q3 at *
 unfold Aj
 split <;> omega
theorem O7 (a b:Nat→Int):∀ n,sm (Aj a b) n+pw n*Qf a b n=sm a n+sm b n
 | 0=>by simp [sm,Qf]
 | n+1=>by
  have ih:=O7 a b n
  have e:Aj a b n+1000000000*Qf a b (n+1)=a n+b n+Qf a b n:=by
   simp only [Aj,Qf]
   split <;> omega
  simp only [sm,pw]
  have:pw n*(Aj a b n+1000000000*Qf a b (n+1))=pw n*(a n+b n+Qf a b n):=by rw [e]
  grind
def JT (a b:Nat→Int):Nat→Int
 | 0=>0
 | i+1=>if a i - b i - JT a b i<0 then 1 else 0
def B7 (a b:Nat→Int) (i:Nat):Int:=if a i - b i - JT a b i<0 then a i - b i - JT a b i+1000000000 else a i - b i - JT a b i
theorem Gn (a b:Nat→Int):∀ i,JT a b i=0∨JT a b i=1
 | 0=>.inl rfl
 | i+1=>by simp only [JT]; split <;> simp
theorem SP {a b:Nat→Int} {i:Nat} (ha:Q3 (a i)) (hb:Q3 (b i)):Q3 (B7 a b i):=by
 have:=Gn a b i
 unfold Q3 at *
 unfold B7
 split <;> omega
theorem P0 (a b:Nat→Int):∀ n,sm (B7 a b) n - pw n*JT a b n=sm a n - sm b n
 | 0=>by simp [sm,JT]
 | n+1=>by
  have ih:=P0 a b n
  have e:B7 a b n - 1000000000*JT a b (n+1)=a n - b n - JT a b n:=by
   simp only [B7,JT]
   split <;> omega
  simp only [sm,pw]
  have:pw n*(B7 a b n - 1000000000*JT a b (n+1))=pw n*(a n - b n - JT a b n):=by rw [e]
  grind
theorem pF {f:Nat→Int}:∀ {n:Nat},(∀ i,i<n→Q3 (f i))→0≤sm f n∧sm f n<pw n
 | 0,_=>by simp [sm,pw]
 | n+1,h=>by
  obtain ⟨h1,h2⟩:=pF (n:=n) fun i hi=>h i (by omega)
  have h3:=h n (by omega)
  have h4:=JV n
  unfold Q3 at h3
  have h5:pw n*f n≤pw n*999999999:=Int.mul_le_mul_of_nonneg_left (by omega) (by omega)
  have h6:0≤pw n*f n:=Int.mul_nonneg (by omega) h3.1
  simp only [sm,pw]; omega
theorem Wm {a b:Nat→Int} {n:Nat} (ha:∀ i,i<n→Q3 (a i)) (hb:∀ i,i<n→Q3 (b i)) (h:sm b n≤sm a n):JT a b n=0:=by
 have h1:=P0 a b n
 have h2:=(pF (f:=B7 a b) (n:=n) fun i hi=>SP (ha i hi) (hb i hi)).2
 rcases Gn a b n with e | e
 ·exact e
 ·rw [e] at h1; omega
theorem QE (l:List Int) (i j:Nat) (x:Int) (hi:i<l.length):(l.set i x).getD j 0=if j=i then x else l.getD j 0:=by
 simp only [List.getD_eq_getElem?_getD,List.getElem?_set]
 by_cases h:i=j
 ·subst h; simp [hi]
 ·simp [h,Ne.symm h]
theorem Ca:∀ (l:List Int) (i:Nat) (x:Int),i<l.length→val (l.set i x)=val l+pw i*(x - l.getD i 0)
 | [],_,_,h=>by simp at h
 | d :: l,0,x,_=>by simp [val,pw]; omega
 | d :: l,i+1,x,h=>by
  have ih:=Ca l i x (by simpa using h)
  simp only [List.set_cons_succ,val,pw,List.getD_cons_succ]
  rw [ih,Int.mul_add,Int.mul_assoc]; omega
theorem Eb {l:List Int} (h:Jm l) (i:Nat) {x:Int} (hx:Q3 x):Jm (l.set i x):=fun d hd=>by
 rcases List.mem_or_eq_of_mem_set hd with e | e
 ·exact h d e
 ·rw [e]; exact hx
theorem Bv {x y:Int} (hx:Q3 x) (hy:Q3 y):0≤x*y∧x*y≤999999998000000001:=by
 unfold Q3 at hx hy
 have h1:0≤x*y:=Int.mul_nonneg hx.1 hy.1
 have h2:x*y≤999999999*y:=Int.mul_le_mul_of_nonneg_right (by omega) hy.1
 omega
theorem Kn (l:List Int) (i:Nat) (h:i<l.length):val (l.drop i)=l.getD i 0+1000000000*val (l.drop (i+1)):=by
 rw [List.drop_eq_getElem_cons h]
 simp only [val]
 rw [List.getD_eq_getElem?_getD,List.getElem?_eq_getElem h]; rfl
theorem Ju (l:List Int) (i:Nat) (h:i≤l.length):val l=val (l.take i)+pw i*val (l.drop i):=by
 conv=>lhs; rw [← List.take_append_drop i l]
 rw [P7,List.length_take,Nat.min_eq_left h]
def Kt (a:Nat→Int) (k:Int):Nat→Int
 | 0=>0
 | i+1=>(a i*k+Kt a k i) / 1000000000
def Fb (a:Nat→Int) (k:Int) (i:Nat):Int:=(a i*k+Kt a k i) % 1000000000
theorem Cv {a:Nat→Int} {k:Int} (ha:∀ i,Q3 (a i)) (hk:Q3 k):∀ i,Q3 (Kt a k i)
 | 0=>⟨by simp [Kt],by simp [Kt]⟩
 | i+1=>by
  have h1:=Cv ha hk i
  have h2:=Bv (ha i) hk
  simp only [Kt]; unfold Q3 at *; omega
theorem ij {a:Nat→Int} {k:Int} (ha:∀ i,Q3 (a i)) (hk:Q3 k) (i:Nat):Q3 (Fb a k i):=by
 unfold Fb Q3; omega
theorem VU (a:Nat→Int) (k:Int):∀ n,sm (Fb a k) n+pw n*Kt a k n=sm a n*k
 | 0=>by simp [sm,Kt]
 | n+1=>by
  have ih:=VU a k n
  have e:Fb a k n+1000000000*Kt a k (n+1)=a n*k+Kt a k n:=by
   simp only [Fb,Kt]; omega
  have e2:pw n*(Fb a k n+1000000000*Kt a k (n+1))=pw n*(a n*k+Kt a k n):=by rw [e]
  simp only [sm,pw]
  grind
def K0 (a:List Int) (b:Int) (i:Nat):Int:=val (a.drop i) % b
def A5 (a:List Int) (b:Int) (i:Nat):Int:=(K0 a b (i+1)*1000000000+a.getD i 0) / b
theorem H0 (a:List Int) (b:Int) (i:Nat) (h:i<a.length):K0 a b i=(K0 a b (i+1)*1000000000+a.getD i 0) % b:=by
 unfold K0
 rw [Kn a i h]
 rw [Int.add_comm,Int.mul_comm,Int.add_emod,Int.mul_emod]
 conv=>rhs; rw [Int.add_emod,Int.mul_emod,Int.emod_emod_of_dvd _ (Int.dvd_refl b)]
theorem LR (a:List Int) (b:Int):K0 a b a.length=0:=by unfold K0; simp [val]
theorem DN {a:List Int} {b:Int} (ha:Jm a) (hb:0<b) (i:Nat):Q3 (A5 a b i):=by
 have h1:=Int.emod_nonneg (val (a.drop (i+1))) (show b≠0 by omega)
 have h2:=Int.emod_lt_of_pos (val (a.drop (i+1))) hb
 have h3:=Jv ha i
 unfold Q3 at *
 unfold A5 K0
 refine ⟨Int.ediv_nonneg (by omega) (by omega),Int.ediv_lt_of_lt_mul hb ?_⟩
 omega
theorem Wa {a:List Int} {b:Int} (hb:0<b):∀ i,i≤a.length→val (a.drop (a.length - i))=b*val ((AJ (A5 a b) a.length).drop (a.length - i))+K0 a b (a.length - i)
 | 0,_=>by
  have e:(AJ (A5 a b) a.length).drop a.length=[]:=by rw [List.drop_eq_nil_iff,Q8]; exact Nat.le_refl _
  simp [e,LR,val]
 | i+1,h=>by
  have ih:=Wa (a:=a) hb i (by omega)
  obtain ⟨k,hk⟩:∃ k,a.length - (i+1)=k:=⟨_,rfl⟩
  have hk1:a.length - i=k+1:=by omega
  rw [hk1] at ih
  rw [hk]
  rw [Kn a k (by omega),Kn (AJ (A5 a b) a.length) k (by rw [Q8]; omega),Cj _ _ _ (show k<a.length by omega)]
  have e:=Int.mul_ediv_add_emod (K0 a b (k+1)*1000000000+a.getD k 0) b
  have e2:=H0 a b k (by omega)
  have e3:A5 a b k=(K0 a b (k+1)*1000000000+a.getD k 0) / b:=rfl
  rw [← e3,← e2] at e
  grind
theorem ON {a:List Int} {b:Int} (hb:0<b):val a=b*val (AJ (A5 a b) a.length)+K0 a b 0:=by
 have:=Wa (a:=a) hb a.length (Nat.le_refl _)
 simpa using this
def zA (z:Int):AV:=.agg [.bool (decide (z<0)),X9 (Xb z.natAbs)]
theorem XH (z:Int):Settled (zA z):=Q6 (by simp [X7,X3])
theorem po:(!(true == false))=true:=Go.Ab.nrfl rfl
theorem pm:(!(false == true))=true:=Go.Ab.nrfl rfl
theorem pq:(!(true == true))=false:=Go.Ab.nrfl rfl
theorem pk:(!(false == false))=false:=Go.Ab.nrfl rfl
set_option linter.defProp false in
def wN:=And.intro po (And.intro pm (And.intro pq pk))
def Ky (neg:Bool) (v:Int):Int:=if neg=true then -v else v
theorem digs_len_zero {n:Nat}:(Xb n).length=0↔n=0:=by rw [List.length_eq_zero_iff,Ot]
theorem pr {l:List Int} (h:Jm l) (neg:Bool):zA (Ky neg (val l))=.agg [.bool (neg && decide (A8 l l.length≠0)),X9 (l.take (A8 l l.length))]:=by
 have h0:=XT h
 have e1:(Ky neg (val l)).natAbs=(val l).toNat:=by unfold Ky; split <;> omega
 have e2:=bP h
 have hle:=Wr l l.length
 have e3:A8 l l.length=0↔val l=0:=by
  have h1:(l.take (A8 l l.length)).length=A8 l l.length:=by rw [List.length_take,Nat.min_eq_left hle]
  rw [← h1,e2,digs_len_zero]; omega
 unfold zA
 rw [e1,e2]
 congr 3
 unfold Ky
 have h0':¬ val l<0:=by omega
 cases neg
 ·simp [h0']
 ·have:-val l<0↔¬ A8 l l.length=0:=by rw [e3]; omega
  simp only [if_true,Bool.true_and,decide_eq_decide]
  exact this
theorem L9 {d:Nat} (h0:d≠0) (h:d<1000000000):Xb d=[(d:Int)]:=by
 rw [AM h0,show d / 1000000000=0 by omega,Q2,show d % 1000000000=d by omega]
theorem PW {d:Nat} (h0:1000000000≤d) (h:d<1000000000000000000):Xb d=[((d % 1000000000:Nat):Int),((d / 1000000000:Nat):Int)]:=by
 rw [AM (by omega),L9 (by omega) (by omega)]
theorem U7 {d:Nat} (h0:1000000000000000000≤d) (h:d<18446744073709551616) :
  Xb d=[((d % 1000000000:Nat):Int),((d / 1000000000 % 1000000000:Nat):Int),((d / 1000000000 / 1000000000:Nat):Int)]:=by
 rw [AM (by omega),PW (by omega) (by omega)]
def dg (l:List Int):Nat→Int:=fun i=>l.getD i 0
theorem Q7 {l:List Int} (h:Jm l) (i:Nat):Q3 (dg l i):=Jv h i
theorem GL {l:List Int} {i:Nat} (h:l.length≤i):dg l i=0:=by unfold dg; rw [List.getD_eq_getElem?_getD,List.getElem?_eq_none h]; rfl
theorem DT (l:List Int) (n:Nat) (h:l.length≤n):sm (dg l) n=val l:=se l n h
def ZI (a b:List Int) (n:Nat):List Int:=AJ (Aj (dg a) (dg b)) n ++ [Qf (dg a) (dg b) n]
theorem NI (a b:List Int) (n:Nat) (ha:a.length≤n) (hb:b.length≤n):val (ZI a b n)=val a+val b:=by
 unfold ZI
 rw [DX,Q8,Gu,O7,DT a n ha,DT b n hb]
theorem NH {a b:List Int} (ha:Jm a) (hb:Jm b) (n:Nat):Jm (ZI a b n):=by
 unfold ZI
 refine Ih.2 ⟨CO fun i _=>Pf (Q7 ha i) (Q7 hb i),KM.2 ⟨?_,C2⟩⟩
 have:=Dp (dg a) (dg b) n
 unfold Q3; omega
theorem Ei (a b:List Int) (n:Nat):(ZI a b n).length=n+1:=by simp [ZI,Q8]
def Zf (a b:List Int):List Int:=AJ (B7 (dg a) (dg b)) a.length
theorem BD {a b:List Int} (ha:Jm a) (hb:Jm b) (hl:b.length≤a.length) (h:val b≤val a):val (Zf a b)=val a - val b:=by
 unfold Zf
 have e:=Wm (n:=a.length) (fun i _=>Q7 ha i) (fun i _=>Q7 hb i) (by rw [DT b _ hl,DT a _ (Nat.le_refl _)]; exact h)
 have e2:=P0 (dg a) (dg b) a.length
 rw [e,DT a _ (Nat.le_refl _),DT b _ hl] at e2
 rw [Gu]; omega
theorem BC {a b:List Int} (ha:Jm a) (hb:Jm b):Jm (Zf a b):=CO fun i _=>SP (Q7 ha i) (Q7 hb i)
def J5 (a b:List Int) (i:Nat):List Int:=AJ (fun j=>if j<i then B7 (dg a) (dg b) j else if j=i then dg a j - JT (dg a) (dg b) i else dg a j) a.length
theorem jn (l:List Int):AJ (dg l) l.length=l:=by
 refine List.ext_getElem (by simp [AJ]) fun i h1 h2=>?_
 simp [AJ,dg,List.getD_eq_getElem?_getD,h2]
theorem RN (a b:List Int):J5 a b 0=a:=by
 unfold J5
 conv=>rhs; rw [← jn a]
 refine KC fun k _=>?_
 rw [if_neg (by omega)]
 split
 ·simp [JT]
 ·rfl
theorem Uw (a b:List Int):J5 a b a.length=Zf a b:=KC fun k hk=>by rw [if_pos hk]
theorem B5 (f:Nat→Int) (n k:Nat) (x:Int) (h:k<n):(AJ f n).set k x=AJ (fun q=>if q=k then x else f q) n:=by
 refine List.ext_getElem (by simp [AJ]) fun q h1 h2=>?_
 have hq:q<n:=by simpa [Q8] using h2
 by_cases e:k=q
 ·subst e; simp [AJ]
 ·simp [AJ,List.getElem_set,e,Ne.symm e]
end
end Go.Ab.N
namespace Go.Ab.N
open Go Go.Ab
open Classical
noncomputable section
theorem XP {l m:List AV} (h:WeakL l m):Weak (.agg l) (.agg m):=fun c v hv=>by
 cases hv with
 | agg vs _ hs hr =>
  have:=(jM h) c (.tuple vs) (.tup vs _ hs hr)
  cases this with
  | tup _ _ hs' hr'=>exact .agg vs m hs' hr'
theorem Ql (f:Nat→AV) (t:Bool):Weak (.sl 0 0 f t) (X9 []):=Ac rfl (Nat.le_refl _) fun j hj=>by exact absurd hj (Nat.not_lt_zero j)
theorem ZQ {n:Nat} {L:List AV} {l:List Int} {t:Bool} (hn:n=l.length) (h:L=l.map I):Weak (.sl n n (Xq L) t) (X9 l):=by
 subst hn; subst h; exact jK l t
theorem N2 (L:List AV):∀ n off,off+n=L.length→Qn (Xq L) off 0 n=L.drop off:=by
 have key:∀ n off j,off+j+n=L.length→Qn (Xq L) off j n=L.drop (off+j):=by
  intro n
  induction n with
  | zero=>intro off j h; rw [List.drop_eq_nil_iff.2 (by omega)]; rfl
  | succ n ih =>
   intro off j h
   rw [List.drop_eq_getElem_cons (by omega)]
   simp only [Qn]
   rw [ih off (j+1) (by omega)]
   congr 1
   show L.getD (off+j) .any=_
   rw [List.getD_eq_getElem?_getD,List.getElem?_eq_getElem (by omega)]; rfl
 intro n off h
 rw [key n off 0 (by omega)]; rfl
theorem rY {P:Program} {fn:Func} {str hcs:List Nat} {r:AV} {s:AS} {t u id ver n:Nat} {L:List AV} (hr:fn.results=#[.cell t u]) (hk:BA P u=some (some n)) (hs:s.get t=.ref id ver 0)
  (ho:s.h[id]?=some (.row ver n (Xq L))) (hn:L.length=n) (h:JS s.h (.agg L) r):RetOk (Qt P fn str hcs r) s:=by
 subst hn
 refine BK (v:=.agg L) hr ?_ h
 rw [hs,Og,hk,EU,ho,EV,rT,N2 L _ _ (by omega)]
 simp [Q5]
theorem Qe {P:Program} {fn:Func} {str hcs:List Nat} {r:AV} {s:AS} {t u id ver n:Nat} {L M:List AV} (hr:fn.results=#[.cell t u]) (hk:BA P u=some (some n)) (hs:s.get t=.ref id ver 0)
  (ho:s.h[id]?=some (.row ver n (Xq L))) (hn:L.length=n) (e:r=.agg M) (hset:Settled r) (h:WeakL L M):RetOk (Qt P fn str hcs r) s:=by
 refine rY hr hk hs ho hn ?_
 subst e
 exact Xr hset (XP h)
end
end Go.Ab.N
namespace Go.Ab.N
open Go Go.RowKit Go.Proofs
theorem uH:BA Tryz.prog 3=some none:=by kernel_rfl
theorem sf:Kq Tryz.prog 3=some 1:=by kernel_rfl
theorem uF:Oy Tryz.prog 3=some .i64:=by kernel_rfl
theorem sF:Qo Tryz.prog 3=some [.int .i64 0]:=by kernel_rfl
theorem sH:NZ Tryz.prog 3=some (.int .i64 0):=by kernel_rfl
theorem uI:BA Tryz.prog 4=some none:=by kernel_rfl
theorem sk:Kq Tryz.prog 4=some 1:=by kernel_rfl
theorem qJ:IX Tryz.prog 4=true:=by kernel_rfl
theorem sG:Qo Tryz.prog 4=some [.bool false]:=by kernel_rfl
theorem tV:BA Tryz.prog 22=some none:=by kernel_rfl
theorem oo:Kq Tryz.prog 22=some 1:=by kernel_rfl
theorem jf:DS Tryz.prog 22=true:=by kernel_rfl
theorem pg:AF Tryz.prog 22=some (3,1,8):=by kernel_rfl
theorem tW:BA Tryz.prog 23=some none:=by kernel_rfl
theorem oq:Kq Tryz.prog 23=some 1:=by kernel_rfl
theorem jg:DS Tryz.prog 23=true:=by kernel_rfl
theorem tH:AF Tryz.prog 23=some (110,2,16):=by kernel_rfl
theorem tX:BA Tryz.prog 24=some none:=by kernel_rfl
theorem ot:Kq Tryz.prog 24=some 1:=by kernel_rfl
theorem jh:DS Tryz.prog 24=true:=by kernel_rfl
theorem tI:AF Tryz.prog 24=some (4,1,1):=by kernel_rfl
theorem XQ:BA Tryz.prog 26=some (some 2):=by kernel_rfl
theorem ou:Kq Tryz.prog 26=some 2:=by kernel_rfl
theorem ml:BR Tryz.prog 26 0=some (0,1,none):=by kernel_rfl
theorem ld:Qh Tryz.prog 26 0=some (0,1):=by kernel_rfl
theorem mm:BR Tryz.prog 26 1=some (1,1,none):=by kernel_rfl
theorem lf:Qh Tryz.prog 26 1=some (1,1):=by kernel_rfl
theorem tj:ZU Tryz.prog 26=true:=by kernel_rfl
theorem oN:Qo Tryz.prog 26=some [.bool false,.sl 0 0 (fun _=>.any) true]:=by kernel_rfl
theorem Qa:BA Tryz.prog 28=some (some 4):=by kernel_rfl
theorem ov:Kq Tryz.prog 28=some 4:=by kernel_rfl
theorem mn:BR Tryz.prog 28 0=some (0,2,some 2):=by kernel_rfl
theorem lg:Qh Tryz.prog 28 0=some (0,2):=by kernel_rfl
theorem mo:BR Tryz.prog 28 1=some (2,2,some 2):=by kernel_rfl
theorem lh:Qh Tryz.prog 28 1=some (2,2):=by kernel_rfl
theorem tk:ZU Tryz.prog 28=true:=by kernel_rfl
theorem oO:Qo Tryz.prog 28=some [.bool false,.sl 0 0 (fun _=>.any) true,.bool false,.sl 0 0 (fun _=>.any) true]:=by kernel_rfl
theorem Np:BA Tryz.prog 30=some (some 25):=by kernel_rfl
theorem ow:Kq Tryz.prog 30=some 25:=by kernel_rfl
theorem mq:BR Tryz.prog 30 0=some (0,1,none):=by kernel_rfl
theorem li:Qh Tryz.prog 30 0=some (0,1):=by kernel_rfl
theorem mr:BR Tryz.prog 30 1=some (1,1,none):=by kernel_rfl
theorem lj:Qh Tryz.prog 30 1=some (1,1):=by kernel_rfl
theorem ms:BR Tryz.prog 30 2=some (2,1,none):=by kernel_rfl
theorem lk:Qh Tryz.prog 30 2=some (2,1):=by kernel_rfl
theorem mu:BR Tryz.prog 30 3=some (3,1,none):=by kernel_rfl
theorem ll:Qh Tryz.prog 30 3=some (3,1):=by kernel_rfl
theorem mv:BR Tryz.prog 30 4=some (4,1,none):=by kernel_rfl
theorem lm:Qh Tryz.prog 30 4=some (4,1):=by kernel_rfl
theorem mw:BR Tryz.prog 30 5=some (5,4,some 4):=by kernel_rfl
theorem ln:Qh Tryz.prog 30 5=some (5,4):=by kernel_rfl
theorem my:BR Tryz.prog 30 6=some (9,4,some 4):=by kernel_rfl
theorem ls:Qh Tryz.prog 30 6=some (9,4):=by kernel_rfl
theorem mz:BR Tryz.prog 30 7=some (13,4,some 4):=by kernel_rfl
theorem lu:Qh Tryz.prog 30 7=some (13,4):=by kernel_rfl
theorem mA:BR Tryz.prog 30 8=some (17,4,some 4):=by kernel_rfl
theorem lx:Qh Tryz.prog 30 8=some (17,4):=by kernel_rfl
theorem mB:BR Tryz.prog 30 9=some (21,4,some 4):=by kernel_rfl
theorem lz:Qh Tryz.prog 30 9=some (21,4):=by kernel_rfl
theorem tp:ZU Tryz.prog 30=true:=by kernel_rfl
theorem oP:Qo Tryz.prog 30=some [.int .i64 0,.int .i64 0,.sl 0 0 (fun _=>.any) true,.sl 0 0 (fun _=>.any) true,.sl 0 0 (fun _=>.any) true,.bool false,.sl 0 0 (fun _=>.any) true,.bool false,.sl 0 0 (fun _=>.any) true,.bool false,.sl 0 0 (fun _=>.any) true,.bool false,.sl 0 0 (fun _=>.any) true,.bool false,.sl 0 0 (fun _=>.any) true,.bool false,.sl 0 0 (fun _=>.any) true,.bool false,.sl 0 0 (fun _=>.any) true,.bool false,.sl 0 0 (fun _=>.any) true,.bool false,.sl 0 0 (fun _=>.any) true,.bool false,.sl 0 0 (fun _=>.any) true]:=by kernel_rfl
theorem tJ:AF Tryz.prog 35=some (28,4,64):=by kernel_rfl
theorem DD:BA Tryz.prog 48=some (some 8):=by kernel_rfl
theorem oz:Kq Tryz.prog 48=some 8:=by kernel_rfl
theorem mC:BR Tryz.prog 48 0=some (0,4,some 4):=by kernel_rfl
theorem lC:Qh Tryz.prog 48 0=some (0,4):=by kernel_rfl
theorem mD:BR Tryz.prog 48 1=some (4,4,some 4):=by kernel_rfl
theorem lD:Qh Tryz.prog 48 1=some (4,4):=by kernel_rfl
theorem tq:ZU Tryz.prog 48=true:=by kernel_rfl
theorem oQ:Qo Tryz.prog 48=some [.bool false,.sl 0 0 (fun _=>.any) true,.bool false,.sl 0 0 (fun _=>.any) true,.bool false,.sl 0 0 (fun _=>.any) true,.bool false,.sl 0 0 (fun _=>.any) true]:=by kernel_rfl
theorem Jn:BA Tryz.prog 50=some (some 8):=by kernel_rfl
theorem oA:Kq Tryz.prog 50=some 8:=by kernel_rfl
theorem mE:BR Tryz.prog 50 0=some (0,4,some 4):=by kernel_rfl
theorem lE:Qh Tryz.prog 50 0=some (0,4):=by kernel_rfl
theorem mF:BR Tryz.prog 50 1=some (4,4,some 4):=by kernel_rfl
theorem lF:Qh Tryz.prog 50 1=some (4,4):=by kernel_rfl
theorem tr:ZU Tryz.prog 50=true:=by kernel_rfl
theorem oR:Qo Tryz.prog 50=some [.bool false,.sl 0 0 (fun _=>.any) true,.bool false,.sl 0 0 (fun _=>.any) true,.bool false,.sl 0 0 (fun _=>.any) true,.bool false,.sl 0 0 (fun _=>.any) true]:=by kernel_rfl
theorem Ht:BA Tryz.prog 52=some (some 29):=by kernel_rfl
theorem oB:Kq Tryz.prog 52=some 29:=by kernel_rfl
theorem mG:BR Tryz.prog 52 0=some (0,1,none):=by kernel_rfl
theorem mH:BR Tryz.prog 52 1=some (1,1,none):=by kernel_rfl
theorem lG:Qh Tryz.prog 52 1=some (1,1):=by kernel_rfl
theorem mI:BR Tryz.prog 52 2=some (2,1,none):=by kernel_rfl
theorem lH:Qh Tryz.prog 52 2=some (2,1):=by kernel_rfl
theorem mJ:BR Tryz.prog 52 3=some (3,1,none):=by kernel_rfl
theorem lI:Qh Tryz.prog 52 3=some (3,1):=by kernel_rfl
theorem mK:BR Tryz.prog 52 4=some (4,1,none):=by kernel_rfl
theorem lJ:Qh Tryz.prog 52 4=some (4,1):=by kernel_rfl
theorem mL:BR Tryz.prog 52 5=some (5,8,some 8):=by kernel_rfl
theorem lK:Qh Tryz.prog 52 5=some (5,8):=by kernel_rfl
theorem mM:BR Tryz.prog 52 6=some (13,8,some 8):=by kernel_rfl
theorem mN:BR Tryz.prog 52 7=some (21,8,some 8):=by kernel_rfl
theorem tu:ZU Tryz.prog 52=true:=by kernel_rfl
theorem oS:Qo Tryz.prog 52=some [.int .i64 0,.int .i64 0,.int .i64 0,.int .i64 0,.int .i64 0,.bool false,.sl 0 0 (fun _=>.any) true,.bool false,.sl 0 0 (fun _=>.any) true,.bool false,.sl 0 0 (fun _=>.any) true,.bool false,.sl 0 0 (fun _=>.any) true,.bool false,.sl 0 0 (fun _=>.any) true,.bool false,.sl 0 0 (fun _=>.any) true,.bool false,.sl 0 0 (fun _=>.any) true,.bool false,.sl 0 0 (fun _=>.any) true,.bool false,.sl 0 0 (fun _=>.any) true,.bool false,.sl 0 0 (fun _=>.any) true,.bool false,.sl 0 0 (fun _=>.any) true,.bool false,.sl 0 0 (fun _=>.any) true]:=by kernel_rfl
theorem VP:BA Tryz.prog 54=some (some 79):=by kernel_rfl
theorem oC:Kq Tryz.prog 54=some 79:=by kernel_rfl
theorem mO:BR Tryz.prog 54 0=some (0,25,some 25):=by kernel_rfl
theorem lM:Qh Tryz.prog 54 0=some (0,25):=by kernel_rfl
theorem mP:BR Tryz.prog 54 1=some (25,25,some 25):=by kernel_rfl
theorem lN:Qh Tryz.prog 54 1=some (25,25):=by kernel_rfl
theorem mQ:BR Tryz.prog 54 2=some (50,29,some 29):=by kernel_rfl
theorem tv:ZU Tryz.prog 54=true:=by kernel_rfl
theorem oT:Qo Tryz.prog 54=some [.int .i64 0,.int .i64 0,.sl 0 0 (fun _=>.any) true,.sl 0 0 (fun _=>.any) true,.sl 0 0 (fun _=>.any) true,.bool false,.sl 0 0 (fun _=>.any) true,.bool false,.sl 0 0 (fun _=>.any) true,.bool false,.sl 0 0 (fun _=>.any) true,.bool false,.sl 0 0 (fun _=>.any) true,.bool false,.sl 0 0 (fun _=>.any) true,.bool false,.sl 0 0 (fun _=>.any) true,.bool false,.sl 0 0 (fun _=>.any) true,.bool false,.sl 0 0 (fun _=>.any) true,.bool false,.sl 0 0 (fun _=>.any) true,.bool false,.sl 0 0 (fun _=>.any) true,.int .i64 0,.int .i64 0,.sl 0 0 (fun _=>.any) true,.sl 0 0 (fun _=>.any) true,.sl 0 0 (fun _=>.any) true,.bool false,.sl 0 0 (fun _=>.any) true,.bool false,.sl 0 0 (fun _=>.any) true,.bool false,.sl 0 0 (fun _=>.any) true,.bool false,.sl 0 0 (fun _=>.any) true,.bool false,.sl 0 0 (fun _=>.any) true,.bool false,.sl 0 0 (fun _=>.any) true,.bool false,.sl 0 0 (fun _=>.any) true,.bool false,.sl 0 0 (fun _=>.any) true,.bool false,.sl 0 0 (fun _=>.any) true,.bool false,.sl 0 0 (fun _=>.any) true,.int .i64 0,.int .i64 0,.int .i64 0,.int .i64 0,.int .i64 0,.bool false,.sl 0 0 (fun _=>.any) true,.bool false,.sl 0 0 (fun _=>.any) true,.bool false,.sl 0 0 (fun _=>.any) true,.bool false,.sl 0 0 (fun _=>.any) true,.bool false,.sl 0 0 (fun _=>.any) true,.bool false,.sl 0 0 (fun _=>.any) true,.bool false,.sl 0 0 (fun _=>.any) true,.bool false,.sl 0 0 (fun _=>.any) true,.bool false,.sl 0 0 (fun _=>.any) true,.bool false,.sl 0 0 (fun _=>.any) true,.bool false,.sl 0 0 (fun _=>.any) true,.bool false,.sl 0 0 (fun _=>.any) true]:=by kernel_rfl
theorem tY:BA Tryz.prog 57=some none:=by kernel_rfl
theorem oD:Kq Tryz.prog 57=some 1:=by kernel_rfl
theorem tK:AF Tryz.prog 57=some (52,29,424):=by kernel_rfl
theorem oU:Qo Tryz.prog 57=some [.sl 0 0 (fun _=>.any) true]:=by kernel_rfl
theorem tZ:BA Tryz.prog 81=some none:=by kernel_rfl
theorem oE:Kq Tryz.prog 81=some 1:=by kernel_rfl
theorem tL:AF Tryz.prog 81=some (50,8,128):=by kernel_rfl
theorem oV:Qo Tryz.prog 81=some [.sl 0 0 (fun _=>.any) true]:=by kernel_rfl
theorem u3:BA Tryz.prog 84=some (some 16):=by kernel_rfl
theorem oF:Kq Tryz.prog 84=some 16:=by kernel_rfl
theorem mR:BR Tryz.prog 84 0=some (0,8,some 8):=by kernel_rfl
theorem lO:Qh Tryz.prog 84 0=some (0,8):=by kernel_rfl
theorem mS:BR Tryz.prog 84 1=some (8,8,some 8):=by kernel_rfl
theorem lP:Qh Tryz.prog 84 1=some (8,8):=by kernel_rfl
theorem tw:ZU Tryz.prog 84=true:=by kernel_rfl
theorem oW:Qo Tryz.prog 84=some [.bool false,.sl 0 0 (fun _=>.any) true,.bool false,.sl 0 0 (fun _=>.any) true,.bool false,.sl 0 0 (fun _=>.any) true,.bool false,.sl 0 0 (fun _=>.any) true,.bool false,.sl 0 0 (fun _=>.any) true,.bool false,.sl 0 0 (fun _=>.any) true,.bool false,.sl 0 0 (fun _=>.any) true,.bool false,.sl 0 0 (fun _=>.any) true]:=by kernel_rfl
theorem gP:BA Tryz.prog 110=some (some 2):=by kernel_rfl
theorem jt:Kq Tryz.prog 110=some 2:=by kernel_rfl
theorem gl:BR Tryz.prog 110 0=some (0,1,none):=by kernel_rfl
theorem ez:Qh Tryz.prog 110 0=some (0,1):=by kernel_rfl
theorem gm:BR Tryz.prog 110 1=some (1,1,none):=by kernel_rfl
theorem eD:Qh Tryz.prog 110 1=some (1,1):=by kernel_rfl
theorem qB:ZU Tryz.prog 110=true:=by kernel_rfl
theorem nX:UV Tryz.prog 110 2=true:=by kernel_rfl
theorem jR:Qo Tryz.prog 110=some [.int .i64 0,.int .i64 0]:=by kernel_rfl
theorem gQ:BA Tryz.prog 114=some (some 20):=by kernel_rfl
theorem ju:Kq Tryz.prog 114=some 20:=by kernel_rfl
theorem qV:AF Tryz.prog 114=none:=by kernel_rfl
theorem eE:Qh Tryz.prog 114 0=some (0,4):=by kernel_rfl
theorem eF:Qh Tryz.prog 114 1=some (4,4):=by kernel_rfl
theorem eG:Qh Tryz.prog 114 2=some (8,4):=by kernel_rfl
theorem eH:Qh Tryz.prog 114 3=some (12,4):=by kernel_rfl
theorem eI:Qh Tryz.prog 114 4=some (16,4):=by kernel_rfl
theorem qD:ZU Tryz.prog 114=true:=by kernel_rfl
theorem qo:TP Tryz.prog 114=some (5,4,some 4):=by kernel_rfl
theorem jS:Qo Tryz.prog 114=some [.bool false,.sl 0 0 (fun _=>.any) true,.bool false,.sl 0 0 (fun _=>.any) true,.bool false,.sl 0 0 (fun _=>.any) true,.bool false,.sl 0 0 (fun _=>.any) true,.bool false,.sl 0 0 (fun _=>.any) true,.bool false,.sl 0 0 (fun _=>.any) true,.bool false,.sl 0 0 (fun _=>.any) true,.bool false,.sl 0 0 (fun _=>.any) true,.bool false,.sl 0 0 (fun _=>.any) true,.bool false,.sl 0 0 (fun _=>.any) true]:=by kernel_rfl
theorem rs:BA Tryz.prog 120=some none:=by kernel_rfl
theorem jv:Kq Tryz.prog 120=some 1:=by kernel_rfl
theorem qW:AF Tryz.prog 120=some (183,3,24):=by kernel_rfl
theorem jT:Qo Tryz.prog 120=some [.sl 0 0 (fun _=>.any) true]:=by kernel_rfl
theorem rt:BA Tryz.prog 122=some (some 2):=by kernel_rfl
theorem jw:Kq Tryz.prog 122=some 2:=by kernel_rfl
theorem qX:AF Tryz.prog 122=none:=by kernel_rfl
theorem eJ:Qh Tryz.prog 122 0=some (0,1):=by kernel_rfl
theorem eK:Qh Tryz.prog 122 1=some (1,1):=by kernel_rfl
theorem qE:ZU Tryz.prog 122=true:=by kernel_rfl
theorem qp:TP Tryz.prog 122=some (2,1,none):=by kernel_rfl
theorem jU:Qo Tryz.prog 122=some [.int .i64 0,.int .i64 0]:=by kernel_rfl
theorem qY:AF Tryz.prog 123=some (122,2,16):=by kernel_rfl
theorem ru:BA Tryz.prog 125=some (some 3):=by kernel_rfl
theorem eL:Qh Tryz.prog 125 0=some (0,1):=by kernel_rfl
theorem eN:Qh Tryz.prog 125 1=some (1,1):=by kernel_rfl
theorem eP:Qh Tryz.prog 125 2=some (2,1):=by kernel_rfl
theorem qF:ZU Tryz.prog 125=true:=by kernel_rfl
theorem nY:UV Tryz.prog 125 3=true:=by kernel_rfl
theorem jV:Qo Tryz.prog 125=some [.int .i64 0,.int .i64 0,.int .i64 0]:=by kernel_rfl
theorem qZ:AF Tryz.prog 126=some (125,3,24):=by kernel_rfl
theorem r5:AF Tryz.prog 148=some (48,8,128):=by kernel_rfl
theorem ry:BA Tryz.prog 181=some none:=by kernel_rfl
theorem jx:Kq Tryz.prog 181=some 1:=by kernel_rfl
theorem mZ:Lt Tryz.prog 181=some (3,3):=by kernel_rfl
theorem jW:Qo Tryz.prog 181=some [.nilmap]:=by kernel_rfl
theorem gn:BR Tryz.prog 183 0=some (0,1,none):=by kernel_rfl
theorem eQ:Qh Tryz.prog 183 0=some (0,1):=by kernel_rfl
theorem go:BR Tryz.prog 183 1=some (1,1,none):=by kernel_rfl
theorem eU:Qh Tryz.prog 183 1=some (1,1):=by kernel_rfl
theorem gq:BR Tryz.prog 183 2=some (2,1,none):=by kernel_rfl
theorem eW:Qh Tryz.prog 183 2=some (2,1):=by kernel_rfl
theorem qG:ZU Tryz.prog 183=true:=by kernel_rfl
theorem jX:Qo Tryz.prog 183=some [.int .i64 0,.int .i64 0,.int .i64 0]:=by kernel_rfl
theorem rl:Oy Tryz.prog 187=some .u64:=by kernel_rfl
theorem rz:BA Tryz.prog 191=some none:=by kernel_rfl
theorem r6:AF Tryz.prog 191=some (81,1,24):=by kernel_rfl
theorem rn:Oy Tryz.prog 197=some .u64:=by kernel_rfl
theorem r7:AF Tryz.prog 241=some (244,3,24):=by kernel_rfl
theorem gR:BA Tryz.prog 244=some (some 3):=by kernel_rfl
theorem jy:Kq Tryz.prog 244=some 3:=by kernel_rfl
theorem r8:AF Tryz.prog 244=none:=by kernel_rfl
theorem eX:Qh Tryz.prog 244 0=some (0,1):=by kernel_rfl
theorem eY:Qh Tryz.prog 244 1=some (1,1):=by kernel_rfl
theorem eZ:Qh Tryz.prog 244 2=some (2,1):=by kernel_rfl
theorem qH:ZU Tryz.prog 244=true:=by kernel_rfl
theorem qq:TP Tryz.prog 244=some (3,1,none):=by kernel_rfl
theorem jY:Qo Tryz.prog 244=some [.int .i64 0,.int .i64 0,.int .i64 0]:=by kernel_rfl
theorem rA:BA Tryz.prog 249=some none:=by kernel_rfl
theorem gr:BR Tryz.prog 252 0=some (0,1,none):=by kernel_rfl
theorem f9:Qh Tryz.prog 252 0=some (0,1):=by kernel_rfl
theorem gt:BR Tryz.prog 252 1=some (1,1,none):=by kernel_rfl
theorem qI:ZU Tryz.prog 252=true:=by kernel_rfl
theorem jZ:Qo Tryz.prog 252=some [.sl 0 0 (fun _=>.any) true,.sl 0 0 (fun _=>.any) true]:=by kernel_rfl
theorem Oz:BA Tryz.prog 255=some (some 1):=by kernel_rfl
theorem jz:Kq Tryz.prog 255=some 1:=by kernel_rfl
theorem gu:BR Tryz.prog 255 0=some (0,1,none):=by kernel_rfl
theorem ka:Qo Tryz.prog 255=some [.sl 0 0 (fun _=>.any) true]:=by kernel_rfl
theorem mixed:Tryz.prog.follows .mixedOrders=true:=by kernel_rfl
theorem Fq {f:FuncId} {fn:Func} {body:Code} {args:List AV} {r:AV} (he:Bq Tryz.prog f) (hf:Tryz.prog.funcs[f]?=some fn) (n0:Nat) (hid str hcs:List Nat) (hs:∀ a∈args,Settled a) (h:Run (Qt Tryz.prog fn str hcs r) [.code body] (AS.start n0 hid args [])) (hb:fn.body=some body:=by rfl) (hok:QI fn.ntmps str hcs body=true:=by kernel_rfl) (hlen:args.length≤fn.ntmps:=by exact Nat.le_of_ble_eq_true rfl):Fn Tryz.prog f args r:=Fn.intro he hf hb mixed n0 hid str hcs hok hlen hs h
set_option linter.defProp false in
def sE:=And.intro @uH <| And.intro @sf <| And.intro @uF <| And.intro @sF <| And.intro @sH <| And.intro @uI <| And.intro @sk <| And.intro @qJ <| And.intro @sG <| And.intro @tV <| And.intro @oo <| And.intro @jf <| And.intro @pg <| And.intro @tW <| And.intro @oq <| And.intro @jg <| And.intro @tH <| And.intro @tX <| And.intro @ot <| And.intro @jh <| And.intro @tI <| And.intro @XQ <| And.intro @ou <| And.intro @ml <| And.intro @ld <| And.intro @mm <| And.intro @lf <| And.intro @tj <| And.intro @oN <| And.intro @Qa <| And.intro @ov <| And.intro @mn <| And.intro @lg <| And.intro @mo <| And.intro @lh <| And.intro @tk <| And.intro @oO <| And.intro @Np <| And.intro @ow <| And.intro @mq <| And.intro @li <| And.intro @mr <| And.intro @lj <| And.intro @ms <| And.intro @lk <| And.intro @mu <| And.intro @ll <| And.intro @mv <| And.intro @lm <| And.intro @mw <| And.intro @ln <| And.intro @my <| And.intro @ls <| And.intro @mz <| And.intro @lu <| And.intro @mA <| And.intro @lx <| And.intro @mB <| And.intro @lz <| And.intro @tp <| And.intro @oP <| And.intro @tJ <| And.intro @DD <| And.intro @oz <| And.intro @mC <| And.intro @lC <| And.intro @mD <| And.intro @lD <| And.intro @tq <| And.intro @oQ <| And.intro @Jn <| And.intro @oA <| And.intro @mE <| And.intro @lE <| And.intro @mF <| And.intro @lF <| And.intro @tr <| And.intro @oR <| And.intro @Ht <| And.intro @oB <| And.intro @mG <| And.intro @mH <| And.intro @lG <| And.intro @mI <| And.intro @lH <| And.intro @mJ <| And.intro @lI <| And.intro @mK <| And.intro @lJ <| And.intro @mL <| And.intro @lK <| And.intro @mM <| And.intro @mN <| And.intro @tu <| And.intro @oS <| And.intro @VP <| And.intro @oC <| And.intro @mO <| And.intro @lM <| And.intro @mP <| And.intro @lN <| And.intro @mQ <| And.intro @tv <| And.intro @oT <| And.intro @tY <| And.intro @oD <| And.intro @tK <| And.intro @oU <| And.intro @tZ <| And.intro @oE <| And.intro @tL <| And.intro @oV <| And.intro @u3 <| And.intro @oF <| And.intro @mR <| And.intro @lO <| And.intro @mS <| And.intro @lP <| And.intro @tw <| And.intro @oW <| And.intro @gP <| And.intro @jt <| And.intro @gl <| And.intro @ez <| And.intro @gm <| And.intro @eD <| And.intro @qB <| And.intro @nX <| And.intro @jR <| And.intro @gQ <| And.intro @ju <| And.intro @qV <| And.intro @eE <| And.intro @eF <| And.intro @eG <| And.intro @eH <| And.intro @eI <| And.intro @qD <| And.intro @qo <| And.intro @jS <| And.intro @rs <| And.intro @jv <| And.intro @qW <| And.intro @jT <| And.intro @rt <| And.intro @jw <| And.intro @qX <| And.intro @eJ <| And.intro @eK <| And.intro @qE <| And.intro @qp <| And.intro @jU <| And.intro @qY <| And.intro @ru <| And.intro @eL <| And.intro @eN <| And.intro @eP <| And.intro @qF <| And.intro @nY <| And.intro @jV <| And.intro @qZ <| And.intro @r5 <| And.intro @ry <| And.intro @jx <| And.intro @mZ <| And.intro @jW <| And.intro @gn <| And.intro @eQ <| And.intro @go <| And.intro @eU <| And.intro @gq <| And.intro @eW <| And.intro @qG <| And.intro @jX <| And.intro @rl <| And.intro @rz <| And.intro @r6 <| And.intro @rn <| And.intro @r7 <| And.intro @gR <| And.intro @jy <| And.intro @r8 <| And.intro @eX <| And.intro @eY <| And.intro @eZ <| And.intro @qH <| And.intro @qq <| And.intro @jY <| And.intro @rA <| And.intro @gr <| And.intro @f9 <| And.intro @gt <| And.intro @qI <| And.intro @jZ <| And.intro @Oz <| And.intro @jz <| And.intro @gu <| @ka
set_option linter.defProp false in
def wA:=And.intro @uk <| And.intro @uh <| And.intro @ug <| And.intro @beq_self_eq_true.{0} <| And.intro @ite_true.{1} <| And.intro @ite_false.{1} <| And.intro @false_implies <| And.intro @true_implies <| And.intro @implies_true.{1} <| And.intro @implies_true.{0} <| And.intro @eq_self.{1} <| And.intro @ne_eq.{1} <| @sE
end Go.Ab.N
namespace Go.Ab.N
open Go Go.RowKit Go.Proofs
noncomputable section
set_option maxRecDepth 10000
set_option maxHeartbeats 2000000
open Classical
def io (neg:Bool) (l:List Int):AV:=.agg [.bool (neg && decide (A8 l l.length≠0)),X9 (l.take (A8 l l.length))]
theorem K3 (neg:Bool) (l:List Int):Settled (io neg l):=Q6 (by simp [X7,X3])
theorem u5 (neg:Bool) (d:List Int) (hl:d.length<4611686018427387904):Fn Tryz.prog 208 [.bool neg,X9 d] (io neg d):=by
 refine Fq Tryz.call208 Tryz.func208 6 [] [] [] (by simp [X7,X8,K1,Ji,X3,K2,XH,K3,Jp]) (X0 1000 ?_); simp (config:={ maxSteps:=2000000 }) only [AS.start,↓X2,wA,seval,zA,wN]
 refine Xe (fun n:Nat=>⟨6,[],[.bool neg,X9 d,.any,.any,.ref 0 0 0,I n],[],[.row 0 2 (Xq [.bool false,.sl 0 0 (fun _=>.any) true])]⟩) (fun n=>n≤d.length∧A8 d d.length=A8 d n) (fun n=>n) d.length ⟨by omega,rfl⟩
  (Xa rfl (by simp [zA,wN,Xh,X9,Ct,JG,Qk,I]) (by simp [Xi]) rfl) ?_
 rintro n ⟨hn,ht⟩ next
 cases n with
 | zero =>
  refine X0 1000 ?_
  simp only [Int.lt_irrefl,↓X2,wA,seval,zA,wN]
  refine BK (v:=.agg [.bool false,.sl 0 0 (fun _=>.any) false]) rfl (by simp [AS.get,JF,XQ,rd,Qn,Xq,A2]) ?_
  have e:io neg d=.agg [.bool false,X9 []]:=by unfold io; rw [ht]; simp [A8]
  rw [e]
  exact A7 ⟨Qy (X3 _) rfl,Xr (X7 _) (Ql _ _),trivial⟩
 | succ n =>
  have e0:(0<((n+1:Nat):Int))=True:=eq_true (by omega)
  have e1:(((n+1:Nat):Int)=0)=False:=eq_false (by omega)
  have w1:IntKind.i64.wrap (((n+1:Nat):Int) - 1)=(n:Int):=by rw [IntKind.wrap_i64]; omega
  have e2:(n<d.length)=True:=eq_true (by omega)
  refine X0 1000 ?_
  simp only [e0,e1,e2,w1,↓X2,wA,seval,zA,wN]
  refine ⟨fun h0=>next n _ ⟨by omega,by rw [ht]; simp only [A8]; rw [if_pos h0]⟩ (by omega) (Xa rfl (by simp [zA,wN,Xh,X9,Ct,JG,Qk,I]) (by simp [Xi]) rfl),fun h0=>⟨by omega,?_⟩⟩
  have ht2:A8 d d.length=n+1:=by rw [ht]; simp only [A8]; rw [if_neg h0]
  have e:io neg d=.agg [.bool neg,X9 (d.take (n+1))]:=by unfold io; rw [ht2]; simp
  have hlen:(d.take (n+1)).length=n+1:=by rw [List.length_take]; omega
  rw [e]
  refine BK (v:=.agg [.bool neg,.sl (n+1) (n+1) (fun j=>.int .i64 (d.getD j 0)) false]) rfl ?_ ?_
  ·have m1:min (n+1) d.length=n+1:=by omega
   simp [AS.get,JF,XQ,rd,Qn,Xq,A2,m1]
  ·refine A7 ⟨Qy (X3 _) rfl,Xr (X7 _) (Gw _ hlen.symm (by omega) fun j hj=>?_),trivial⟩
   rw [hlen] at hj
   rw [Bm d 0 j (n+1) hj]; rfl
set_option linter.defProp false in
def Kf:=And.intro @X7 (And.intro @X8 (And.intro @K1 (And.intro @Ji (And.intro @X3 (And.intro @K2 (And.intro @XH (And.intro @K3 @Jp)))))))
theorem jQ (neg:Bool) {u:Int} (h:0≤u):zA (Ky neg u)=.agg [.bool (neg && decide (u≠0)),X9 (Xb u.toNat)]:=by
 unfold zA
 have e1:(Ky neg u).natAbs=u.toNat:=by unfold Ky; split <;> omega
 rw [e1]
 congr 3
 unfold Ky
 have h0':¬ u<0:=by omega
 cases neg
 ·simp [h0']
 ·have:-u<0↔¬ u=0:=by omega
  simp only [if_true,Bool.true_and,decide_eq_decide,ne_eq]
  exact this
def U (n:Int):AV:=.int .u64 n
theorem Z2 (neg:Bool) (u:Int) (h0:0≤u) (h1:u<18446744073709551616):Fn Tryz.prog 207 [.bool neg,.int .u64 u] (zA (Ky neg u)):=by
 obtain ⟨R,hR⟩:∃ R,R=zA (Ky neg u):=⟨_,rfl⟩
 have eR:=hR.trans (jQ neg h0)
 have sR:Settled R:=hR▸XH _
 have b1:u≠0→(neg && decide (u≠0))=neg:=fun h=>by simp [h]
 have w1:IntKind.i64.wrap (u.tmod 1000000000)=u % 1000000000:=by rw [IntKind.wrap_i64,Int.tmod_eq_emod_of_nonneg h0]; omega
 have w2:IntKind.u64.wrap (u.tdiv 1000000000)=u / 1000000000:=by rw [IntKind.wrap_u64,Int.tdiv_eq_ediv_of_nonneg h0]; omega
 have h2:0≤u / 1000000000:=by omega
 have w3:IntKind.i64.wrap (u / 1000000000)=u / 1000000000:=by rw [IntKind.wrap_i64]; omega
 have w4:IntKind.i64.wrap ((u / 1000000000).tmod 1000000000)=u / 1000000000 % 1000000000:=by rw [IntKind.wrap_i64,Int.tmod_eq_emod_of_nonneg h2]; omega
 have w5:IntKind.u64.wrap ((u / 1000000000).tdiv 1000000000)=u / 1000000000 / 1000000000:=by rw [IntKind.wrap_u64,Int.tdiv_eq_ediv_of_nonneg h2]; omega
 have w6:IntKind.i64.wrap (u / 1000000000 / 1000000000)=u / 1000000000 / 1000000000:=by rw [IntKind.wrap_i64]; omega
 rw [← hR]
 refine Fq Tryz.call207 Tryz.func207 6 [] [] [] (by simp [Kf]) (X0 1000 ?_); simp (config:={ maxSteps:=2000000 }) only [AS.start,↓X2,wA,↓reduceIte,reduceIte,reduceCtorEq,Y1,Y2,Y3,Y4,Y5,Y6,Y7,Y8,Y9,YA,zA,wN]
 simp only [w1,w2,w3,w4,w5,w6]
 refine ⟨fun a=>?_,fun a0=>⟨fun a1=>?_,fun a1=>⟨fun a2=>⟨by omega,by omega,?_⟩,fun a2=>⟨by omega,by omega,by omega,by omega,by omega,?_⟩⟩⟩⟩
 ·rw [a,show (neg && decide ((0:Int)≠0))=false by simp,show (0:Int).toNat=0 from rfl,Q2] at eR
  exact Qe rfl XQ rfl rfl rfl eR sR ⟨Weak.rfl' _,Ql _ _,trivial⟩
 ·have w0:IntKind.i64.wrap u=u:=by rw [IntKind.wrap_i64]; omega
  rw [b1 a0,L9 (by omega) (by omega),Int.toNat_of_nonneg h0] at eR
  rw [w0]
  exact Qe rfl XQ rfl rfl rfl eR sR ⟨Weak.rfl' _,ZQ rfl rfl,trivial⟩
 ·rw [b1 a0,PW (by omega) (by omega)] at eR
  have e1:((u.toNat % 1000000000:Nat):Int)=u % 1000000000:=by omega
  have e2:((u.toNat / 1000000000:Nat):Int)=u / 1000000000:=by omega
  rw [e1,e2] at eR
  exact Qe rfl XQ rfl rfl rfl eR sR ⟨Weak.rfl' _,ZQ rfl rfl,trivial⟩
 ·rw [b1 a0,U7 (by omega) (by omega)] at eR
  have e1:((u.toNat % 1000000000:Nat):Int)=u % 1000000000:=by omega
  have e2:((u.toNat / 1000000000 % 1000000000:Nat):Int)=u / 1000000000 % 1000000000:=by omega
  have e3:((u.toNat / 1000000000 / 1000000000:Nat):Int)=u / 1000000000 / 1000000000:=by omega
  rw [e1,e2,e3] at eR
  exact Qe rfl XQ rfl rfl rfl eR sR ⟨Weak.rfl' _,ZQ rfl rfl,trivial⟩
theorem OA (z:Int):Fn Tryz.prog 196 [zA z] (zA (-z)):=by
 have e:(-z).natAbs=z.natAbs:=by omega
 have e0:z.natAbs=0↔z=0:=by omega
 have e1:(Xb z.natAbs).length=0↔z=0:=digs_len_zero.trans e0
 refine Fq Tryz.call196 Tryz.func196 3 [] [] [] (by simp [Kf]) (X0 1000 ?_); simp (config:={ maxSteps:=2000000 }) only [AS.start,↓X2,wA,↓reduceIte,reduceIte,reduceCtorEq,Y1,Y2,Y3,Y4,Y5,Y6,Y7,Y8,Y9,YA,zA,wN]
 refine ⟨fun h=>Qe rfl XQ rfl rfl rfl rfl (XH _) ?_,fun h=>Qe rfl XQ rfl rfl rfl rfl (XH _) ?_⟩
 ·rw [e]
  have:decide (-z<0)=decide (0<((Xb z.natAbs).length:Int)):=by rw [decide_eq_decide]; omega
  rw [this]
  exact ⟨Weak.rfl' _,Weak.rfl' _,trivial⟩
 ·rw [e,show decide (-z<0)=false from decide_eq_false (by omega)]
  exact ⟨Weak.rfl' _,Weak.rfl' _,trivial⟩
theorem o9 (z:Int):Fn Tryz.prog 155 [zA z] (I z.sign):=by
 have e0:z.natAbs=0↔z=0:=by omega
 have e1:(Xb z.natAbs).length=0↔z=0:=digs_len_zero.trans e0
 refine Fq Tryz.call155 Tryz.func155 4 [] [] [] (by simp [Kf]) (X0 1000 ?_); simp (config:={ maxSteps:=2000000 }) only [AS.start,↓X2,wA,↓reduceIte,reduceIte,reduceCtorEq,Y1,Y2,Y3,Y4,Y5,Y6,Y7,Y8,Y9,YA,zA,wN]
 refine ⟨fun h=>Xs rfl rfl (X8 _) ?_,fun h=>⟨fun h2=>Xs rfl rfl (X8 _) ?_,fun h2=>Xs rfl rfl (X8 _) ?_⟩⟩
 ·rw [Int.sign_eq_neg_one_of_neg h]; rfl
 ·rw [e1.1 (by omega)]; rfl
 ·rw [Int.sign_eq_one_of_pos (by omega)]; rfl
theorem P4 (d:List Int) (h:Jm d):Fn Tryz.prog 226 [X9 d] (.tup [I (if d.length≤2 then val d else 0),.bool (decide (d.length≤2))]):=by
 have k2:¬ d.length≤2→I 0=I (if d.length≤2 then val d else 0)∧AV.bool false=.bool (decide (d.length≤2)):=fun h=>by simp [h]
 have k1:d.length≤2→∀ x,x=val d→I x=I (if d.length≤2 then val d else 0)∧AV.bool true=.bool (decide (d.length≤2)):=fun h x hx=>by simp [h,hx]
 refine Fq Tryz.call226 Tryz.func226 4 [5] [] [] (by simp [Kf]) (X0 1000 ?_); simp (config:={ maxSteps:=2000000 }) only [AS.start,↓X2,wA,↓reduceIte,reduceIte,reduceCtorEq,Y1,Y2,Y3,Y4,Y5,Y6,Y7,Y8,Y9,YA,zA,wN]
 have fin:∀ {s:AS} {x:Int},s.get 2=I x→s.get 3=.bool true→d.length≤2→x=val d→RetOk (Qt Tryz.prog Tryz.f226 [] [] (.tup [I (if d.length≤2 then val d else 0),.bool (decide (d.length≤2))])) s:=fun h1 h2 hl hx =>
  So rfl h1 h2 (X8 _) (X3 _) (k1 hl _ hx).1 (k1 hl _ hx).2
 refine ⟨fun a=>fin rfl rfl (by omega) ?_,fun a0=>⟨fun a=>⟨by omega,by omega,fin rfl rfl (by omega) ?_⟩,fun a1=>⟨fun a=>⟨⟨by omega,by omega⟩,by omega,by omega,by omega,fin rfl rfl (by omega) ?_⟩,fun a2=>So rfl rfl rfl (X8 _) (X3 _) (k2 (by omega)).1 (k2 (by omega)).2⟩⟩⟩
 ·obtain rfl:d=[]:=List.length_eq_zero_iff.1 (by omega)
  rfl
 ·obtain ⟨x,rfl⟩:=List.length_eq_one_iff.1 (show d.length=1 by omega)
  simp [val]
 ·obtain ⟨x,y,rfl⟩:∃ x y,d=[x,y]:=by
   match d,a with
   | [x,y],_=>exact ⟨x,y,rfl⟩
   | [],h=>exact absurd h (by simp)
   | [_],h=>exact absurd h (by simp)
   | _ :: _ :: _ :: _,h=>exact absurd h (by simp; omega)
  have h1:=h x (by simp)
  have h2:=h y (by simp)
  unfold Q3 at h1 h2
  simp only [List.getD_cons_zero,List.getD_cons_succ,val,IntKind.wrap_i64]
  omega
theorem RE (a:Int):Fn Tryz.prog 267 [I a] (.bool false):=by
 refine Fq Tryz.call267 Tryz.func267 3 [] [] [] (by simp [Kf]) (X0 1000 ?_); simp (config:={ maxSteps:=2000000 }) only [AS.start,↓X2,wA,↓reduceIte,reduceIte,reduceCtorEq,Y1,Y2,Y3,Y4,Y5,Y6,Y7,Y8,Y9,YA,zA,wN]
 exact Xs rfl rfl (X3 _) rfl
theorem Vu (a b:Int):Fn Tryz.prog 249 [I a,I b] (I (a - b).sign):=by
 refine Fq Tryz.call249 Tryz.func249 7 [] [] [] (by simp [Kf]) (X0 1000 ?_); simp (config:={ maxSteps:=2000000 }) only [AS.start,↓X2,wA,↓reduceIte,reduceIte,reduceCtorEq,Y1,Y2,Y3,Y4,Y5,Y6,Y7,Y8,Y9,YA,zA,wN]
 refine X1 (RE a) rfl ?_
 simp only [↓X2,wA,↓reduceIte,reduceIte,reduceCtorEq,Y1,Y2,Y3,Y4,Y5,Y6,Y7,Y8,Y9,YA,zA,wN]
 refine X1 (RE b) rfl ?_
 simp only [↓X2,wA,↓reduceIte,reduceIte,reduceCtorEq,Y1,Y2,Y3,Y4,Y5,Y6,Y7,Y8,Y9,YA,zA,wN]
 refine ⟨fun h=>Xs rfl rfl (X8 _) ?_,fun h=>⟨fun h2=>Xs rfl rfl (X8 _) ?_,fun h2=>Xs rfl rfl (X8 _) ?_⟩⟩
 ·rw [Int.sign_eq_neg_one_of_neg (by omega)]; rfl
 ·rw [Int.sign_eq_one_of_pos (by omega)]; rfl
 ·rw [show a - b=0 by omega]; rfl
theorem fu {a b:List Int} (ha:Jm a) (hb:Jm b) (hl:a.length=b.length) {i:Nat} (hi:i<a.length) (he:a.drop (i+1)=b.drop (i+1)) (hne:a.getD i 0≠b.getD i 0) :
  (val a - val b).sign=(a.getD i 0 - b.getD i 0).sign:=by
 rw [Ju a i (by omega),Ju b i (by omega),Kn a i hi,Kn b i (by omega),he]
 have h1:=XT (QN ha i)
 have h2:=XT (QN hb i)
 have h3:=Zi (QN ha i)
 have h4:=Zi (QN hb i)
 have e1:(a.take i).length=i:=by rw [List.length_take]; omega
 have e2:(b.take i).length=i:=by rw [List.length_take]; omega
 rw [e1] at h3
 rw [e2] at h4
 generalize val (a.take i)=p at *
 generalize val (b.take i)=q at *
 generalize val (b.drop (i+1))=r at *
 generalize a.getD i 0=x at *
 generalize b.getD i 0=y at *
 have hp:=JV i
 generalize pw i=P at *
 have e:p+P*(x+1000000000*r) - (q+P*(y+1000000000*r))=(p - q)+P*(x - y):=by grind
 rw [e]
 rcases Int.lt_or_gt_of_ne hne with h | h
 ·rw [Int.sign_eq_neg_one_of_neg (show x - y<0 by omega)]
  have:P*(x - y)≤P*(-1):=Int.mul_le_mul_of_nonneg_left (by omega) (by omega)
  exact Int.sign_eq_neg_one_of_neg (by omega)
 ·rw [Int.sign_eq_one_of_pos (show 0<x - y by omega)]
  have:P*1≤P*(x - y):=Int.mul_le_mul_of_nonneg_left (by omega) (by omega)
  exact Int.sign_eq_one_of_pos (by omega)
theorem Dt {a b:List Int} (ha:ZW a) (hb:ZW b) (h:a.length<b.length):val a<val b:=by
 have h1:=Zi ha.1
 have hne:b≠[]:=fun e=>by rw [e] at h; simp at h
 have h2:=Cp hb hne
 have h3:=CY (show a.length≤b.length - 1 by omega)
 omega
theorem FE {a b:List Int} (hl:a.length=b.length) {i:Nat} (hi:i<a.length) (he:a.drop (i+1)=b.drop (i+1)) (h:a.getD i 0=b.getD i 0):a.drop i=b.drop i:=by
 have hi2:i<b.length:=by omega
 rw [List.drop_eq_getElem_cons hi,List.drop_eq_getElem_cons hi2,he]
 rw [List.getD_eq_getElem?_getD,List.getElem?_eq_getElem hi,List.getD_eq_getElem?_getD,List.getElem?_eq_getElem hi2] at h
 simp only [Option.getD_some] at h
 rw [h]
theorem CM (a b:List Int) (ha:ZW a) (hb:ZW b) (la:a.length<4611686018427387904):Fn Tryz.prog 215 [X9 a,X9 b] (I (val a - val b).sign):=by
 have hc:a.length≠b.length→Fn Tryz.prog 249 [I a.length,I b.length] (I (val a - val b).sign):=fun h=>by
  have e:((a.length:Int) - b.length).sign=(val a - val b).sign:=by
   rcases Nat.lt_or_gt_of_ne h with h' | h'
   ·have:=Dt ha hb h'
    rw [Int.sign_eq_neg_one_of_neg (by omega),Int.sign_eq_neg_one_of_neg (by omega)]
   ·have:=Dt hb ha h'
    rw [Int.sign_eq_one_of_pos (by omega),Int.sign_eq_one_of_pos (by omega)]
  rw [← e]; exact Vu _ _
 refine Fq Tryz.call215 Tryz.func215 6 [] [] [] (by simp [Kf]) (X0 1000 ?_); simp (config:={ maxSteps:=2000000 }) only [AS.start,↓X2,wA,seval,zA,wN]
 refine ⟨fun h=>X1 (hc h) rfl ?_,fun hl=>?_⟩
 ·simp only [↓X2,wA,seval,zA,wN]
  exact Xs rfl rfl (X8 _) rfl
 refine Xe (fun k:Nat=>⟨6,[],[X9 a,X9 b,.any,.any,I 0,I ((k:Int) - 1)],[],[]⟩) (fun k=>k≤a.length∧a.drop k=b.drop k) (fun k=>k) a.length ⟨by omega,by rw [List.drop_length,hl,List.drop_length]⟩
  ?_ ?_
 ·have w0:IntKind.i64.wrap ((a.length:Int) - 1)=(a.length:Int) - 1:=by rw [IntKind.wrap_i64]; omega
  rw [w0]
  exact (Xa rfl (by simp [zA,wN,Xh,X9,Ct,JG,Qk,I]) (by simp [Xi]) rfl)
 rintro k ⟨hk,he⟩ next
 cases k with
 | zero =>
  refine X0 1000 ?_
  have e0:(0≤((0:Nat):Int) - 1)=False:=eq_false (by omega)
  have e1:((0:Int)≤0 - 1)=False:=eq_false (by omega)
  simp only [e0,e1,↓X2,wA,seval,zA,wN]
  refine Xs rfl rfl (X8 _) ?_
  rw [List.drop_zero,List.drop_zero] at he
  rw [he,Int.sub_self]; rfl
 | succ k =>
  have e1:((k+1:Nat):Int) - 1=(k:Int):=by omega
  have w1:IntKind.i64.wrap ((k:Int) - 1)=(k:Int) - 1:=by rw [IntKind.wrap_i64]; omega
  have e2:((k:Int)<a.length)=True:=eq_true (by omega)
  have e3:(k<a.length)=True:=eq_true (by omega)
  have e4:(k<b.length)=True:=eq_true (by omega)
  have hcm:a.getD k 0≠b.getD k 0→Fn Tryz.prog 249 [I (a.getD k 0),I (b.getD k 0)] (I (val a - val b).sign):=fun h=>by
   rw [fu ha.1 hb.1 hl (by omega) he h]; exact Vu _ _
  refine X0 1000 ?_
  simp only [e1,w1,e3,e4,↓X2,wA,seval,zA,wN]
  refine ⟨fun h=>X1 (hcm h) rfl ?_,fun h=>next k _ ⟨by omega,FE hl (by omega) he h⟩ (by omega) (Xa rfl (by simp [zA,wN,Xh,X9,Ct,JG,Qk,I]) (by simp [Xi]) rfl)⟩
  simp only [↓X2,wA,seval,zA,wN]
  exact Xs rfl rfl (X8 _) rfl
theorem Fe (n:Int) (h:Zz n):Fn Tryz.prog 148 [I n] (zA n):=by
 obtain ⟨R,hR⟩:∃ R,R=zA n:=⟨_,rfl⟩
 have sR:Settled R:=hR▸XH _
 unfold Zz at h
 have c1:n<0→Fn Tryz.prog 207 [.bool (decide (n<0)),.int .u64 (IntKind.u64.wrap (0 - IntKind.u64.wrap n))] R:=fun h1=>by
  have e:IntKind.u64.wrap (0 - IntKind.u64.wrap n) = -n:=by rw [IntKind.wrap_u64,IntKind.wrap_u64]; omega
  have e2:Ky (decide (n<0)) (-n)=n:=by unfold Ky; rw [if_pos (decide_eq_true h1)]; omega
  have:=Z2 (decide (n<0)) (-n) (by omega) (by omega)
  rw [e2] at this
  rw [e,hR]; exact this
 have c2:¬ n<0→Fn Tryz.prog 207 [.bool (decide (n<0)),.int .u64 (IntKind.u64.wrap n)] R:=fun h1=>by
  have e:IntKind.u64.wrap n=n:=by rw [IntKind.wrap_u64]; omega
  have e2:Ky (decide (n<0)) n=n:=by unfold Ky; rw [if_neg (by simp; omega)]
  have:=Z2 (decide (n<0)) n (by omega) (by omega)
  rw [e2] at this
  rw [e,hR]; exact this
 rw [← hR]
 refine Fq Tryz.call148 Tryz.func148 4 [] [] [] (by simp [Kf]) (X0 1000 ?_); simp (config:={ maxSteps:=2000000 }) only [AS.start,↓X2,wA,seval,zA,wN]
 refine ⟨fun h1=>X1 (c1 h1) rfl ?_,fun h1=>X1 (c2 h1) rfl ?_⟩
 ·simp only [hR,↓X2,wA,seval,zA,wN]
  exact Qe rfl XQ rfl rfl rfl hR sR ⟨Weak.rfl' _,Weak.rfl' _,trivial⟩
 ·simp only [hR,↓X2,wA,seval,zA,wN]
  exact Qe rfl XQ rfl rfl rfl hR sR ⟨Weak.rfl' _,Weak.rfl' _,trivial⟩
end
end Go.Ab.N
