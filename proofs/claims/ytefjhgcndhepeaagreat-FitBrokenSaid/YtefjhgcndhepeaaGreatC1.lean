/- Contracts of functions of these chapters, for every argument that fits, and what they need. -/
import Derived.Test.YtefjhgcndhepeaaGreatAb4
import Derived.Test.YtefjhgcndhepeaaGreatRows
import Derived.KernelRfl
set_option linter.unusedSimpArgs false
set_option linter.unusedVariables false
open Nat renaming reducePow → Y1, reduceLT → Y2, reduceLeDiff → Y3, reduceEqDiff → Y4, reduceAdd → Y5, reduceMul → Y6, reduceSub → Y7, reduceBEq → Y8, reduceDiv → Y9, reduceMod → YA
namespace Go.Ab.N
open Go.Ab
open Classical
noncomputable section
def pw:Nat→Int
 | 0=>1
 | n+1=>1000000000*pw n
theorem JI:∀ n,0<pw n
 | 0=>by simp [pw]
 | n+1=>by have:=JI n; simp only [pw]; omega
theorem ET (m n:Nat):pw (m+n)=pw m*pw n:=by
 induction m with
 | zero=>simp [pw]
 | succ m ih=>rw [show m+1+n=(m+n)+1 by omega]; simp only [pw]; rw [ih,Int.mul_assoc]
theorem Cn {m n:Nat} (h:m≤n):pw m≤pw n:=by
 obtain ⟨k,rfl⟩:=Nat.exists_eq_add_of_le h
 induction k with
 | zero=>exact Int.le_refl _
 | succ k ih =>
  have h1:=ih (by omega)
  have h2:=JI (m+k)
  rw [show m+(k+1)=(m+k)+1 by omega]
  simp only [pw]; omega
def val:List Int→Int
 | []=>0
 | d :: l=>d+1000000000*val l
def XW (d:Int):Prop:=0≤d∧d<1000000000
def Jh (l:List Int):Prop:=∀ d∈l,XW d
def Zq (l:List Int):Prop:=Jh l∧(l≠[]→l.getD (l.length - 1) 0≠0)
theorem Be:Jh []:=fun _ h=>by cases h
theorem Kz {d:Int} {l:List Int}:Jh (d :: l)↔XW d∧Jh l:=by unfold Jh; simp
theorem HT {l m:List Int}:Jh (l ++ m)↔Jh l∧Jh m:=by
 unfold Jh
 constructor
 ·exact fun h=>⟨fun d hd=>h d (List.mem_append_left _ hd),fun d hd=>h d (List.mem_append_right _ hd)⟩
 ·rintro ⟨h1,h2⟩ d hd
  rcases List.mem_append.1 hd with h | h
  ·exact h1 d h
  ·exact h2 d h
theorem Jq {l:List Int} (h:Jh l) (i:Nat):XW (l.getD i 0):=by
 by_cases hi:i<l.length
 ·exact h _ (Ju hi)
 ·rw [List.getD_eq_getElem?_getD,List.getElem?_eq_none (by omega)]; exact ⟨by simp,by simp⟩
theorem QC {l:List Int} (h:Jh l) (n:Nat):Jh (l.take n):=fun d hd=>h d (List.mem_of_mem_take hd)
theorem MN {l:List Int} (h:∀ i,i<l.length→XW (l.getD i 0)):Jh l:=by
 intro d hd
 obtain ⟨i,hi,rfl⟩:=List.getElem_of_mem hd
 have:=h i hi
 rwa [List.getD_eq_getElem?_getD,List.getElem?_eq_getElem hi] at this
theorem XS {l:List Int} (h:Jh l):0≤val l:=by
 induction l with
 | nil=>exact Int.le_refl 0
 | cons d l ih =>
  obtain ⟨h1,h2⟩:=Kz.1 h
  have:=ih h2
  simp only [val]; unfold XW at h1; omega
theorem KY {l:List Int} (h:Jh l):val l<pw l.length:=by
 induction l with
 | nil=>simp [val,pw]
 | cons d l ih =>
  obtain ⟨h1,h2⟩:=Kz.1 h
  have:=ih h2
  simp only [val,List.length_cons,pw]; unfold XW at h1; omega
theorem OY (l m:List Int):val (l ++ m)=val l+pw l.length*val m:=by
 induction l with
 | nil=>simp [val,pw]
 | cons d l ih =>
  simp only [List.cons_append,val,List.length_cons,pw]
  rw [ih,Int.mul_add,Int.mul_assoc]; omega
theorem DG (l:List Int) (x:Int):val (l ++ [x])=val l+pw l.length*x:=by
 rw [OY]; simp [val]
theorem Jg (l:List Int) (i:Nat) (h:i<l.length):val (l.take (i+1))=val (l.take i)+pw i*l.getD i 0:=by
 rw [QJ l 0 i h,DG,List.length_take,Nat.min_eq_left (by omega)]
theorem Eb (n:Nat):val (List.replicate n 0)=0:=by
 induction n with
 | zero=>rfl
 | succ n ih=>simp [List.replicate_succ,val,ih]
theorem BJ {l:List Int} (h:Zq l) (hne:l≠[]):pw (l.length - 1)≤val l:=by
 have hl:=h.2 hne
 have hlen:0<l.length:=List.length_pos_iff.2 hne
 have e:=Jg l (l.length - 1) (by omega)
 rw [show l.length - 1+1=l.length by omega,List.take_length] at e
 have h1:=XS (QC h.1 (l.length - 1))
 have h2:=Jq h.1 (l.length - 1)
 have h3:=JI (l.length - 1)
 have h4:pw (l.length - 1)*1≤pw (l.length - 1)*l.getD (l.length - 1) 0:=Int.mul_le_mul_of_nonneg_left (by unfold XW at h2; omega) (by omega)
 omega
theorem Ib:∀ {a b:List Int},Jh a→Jh b→a.length=b.length→val a=val b→a=b
 | [],[],_,_,_,_=>rfl
 | [],_ :: _,_,_,h,_=>by simp at h
 | _ :: _,[],_,_,h,_=>by simp at h
 | x :: a,y :: b,ha,hb,hl,hv=>by
  obtain ⟨h1,h2⟩:=Kz.1 ha
  obtain ⟨h3,h4⟩:=Kz.1 hb
  simp only [val] at hv
  unfold XW at h1 h3
  have hxy:x=y:=by omega
  have hv':val a=val b:=by omega
  rw [hxy,Ib h2 h4 (by simpa using hl) hv']
theorem YM {a b:List Int} (ha:Zq a) (hb:Zq b) (h:val a=val b):a=b:=by
 have key:∀ {a b:List Int},Zq a→Zq b→val a=val b→a.length≤b.length→a=b:=by
  intro a b ha hb h hl
  by_cases e:a.length=b.length
  ·exact Ib ha.1 hb.1 e h
  ·exfalso
   have hne:b≠[]:=fun e'=>by
    have:b.length=0:=by rw [e']; rfl
    omega
   have h1:=BJ hb hne
   have h2:=KY ha.1
   have h3:=Cn (show a.length≤b.length - 1 by omega)
   omega
 rcases Nat.le_total a.length b.length with hl | hl
 ·exact key ha hb h hl
 ·exact (key hb ha h.symm hl).symm
def X8 (n:Nat):List Int:=if h:n=0 then [] else ((n % 1000000000:Nat):Int) :: X8 (n / 1000000000)
termination_by n
decreasing_by omega
theorem XV:X8 0=[]:=by rw [X8]; simp
theorem A7 {n:Nat} (h:n≠0):X8 n=((n % 1000000000:Nat):Int) :: X8 (n / 1000000000):=by rw [X8]; simp [h]
theorem Xw (n:Nat):val (X8 n)=n:=by
 induction n using Nat.strongRecOn with
 | ind n ih =>
  by_cases h:n=0
  ·subst h; rw [XV]; rfl
  ·rw [A7 h]
   simp only [val]
   rw [ih (n / 1000000000) (by omega)]; omega
theorem XF (n:Nat):Jh (X8 n):=by
 induction n using Nat.strongRecOn with
 | ind n ih =>
  by_cases h:n=0
  ·subst h; rw [XV]; exact Be
  ·rw [A7 h]
   exact Kz.2 ⟨⟨by omega,by omega⟩,ih _ (by omega)⟩
theorem HU {n:Nat} (h:n≠0):X8 n≠[]:=by rw [A7 h]; simp
theorem Ok {n:Nat}:X8 n=[]↔n=0:=⟨fun h=>Classical.byContradiction fun e=>HU e h,fun h=>by rw [h]; exact XV⟩
theorem XM (n:Nat):Zq (X8 n):=by
 refine ⟨XF n,?_⟩
 induction n using Nat.strongRecOn with
 | ind n ih =>
  intro hne
  by_cases h:n=0
  ·subst h; exact absurd XV hne
  ·rw [A7 h]
   by_cases h2:n / 1000000000=0
   ·rw [h2,XV]; simp; omega
   ·have hn:=HU h2
    have:=ih (n / 1000000000) (by omega) hn
    obtain ⟨k,hk⟩:∃ k,(X8 (n / 1000000000)).length=k+1:=⟨(X8 (n / 1000000000)).length - 1,by have:=List.length_pos_iff.2 hn; omega⟩
    simp only [List.length_cons,hk,Nat.add_sub_cancel] at this ⊢
    simpa using this
theorem A0 {l:List Int} (h:Zq l):X8 (val l).toNat=l:=by
 refine YM (XM _) h ?_
 rw [Xw]
 have:=XS h.1
 omega
theorem p5 {l:List Int} (h:Jh l):((val l).toNat:Int)=val l:=Int.toNat_of_nonneg (XS h)
def Zz (l:List Int):Nat→Nat
 | 0=>0
 | n+1=>if l.getD n 0=0 then Zz l n else n+1
theorem WF (l:List Int):∀ n,Zz l n≤n
 | 0=>Nat.le_refl _
 | n+1=>by
  simp only [Zz]
  split
  ·exact Nat.le_succ_of_le (WF l n)
  ·exact Nat.le_refl _
theorem SN {l:List Int}:∀ n,n≤l.length→val (l.take (Zz l n))=val (l.take n)
 | 0,_=>rfl
 | n+1,h=>by
  simp only [Zz]
  split
  ·rename_i e
   rw [SN n (by omega),Jg l n h,e]; simp
  ·rfl
theorem V1 {l:List Int} (h:Jh l) (n:Nat) (hn:n≤l.length):Zq (l.take (Zz l n)):=by
 refine ⟨QC h _,fun hne=>?_⟩
 induction n with
 | zero=>simp [Zz] at hne
 | succ n ih =>
  simp only [Zz] at hne ⊢
  split
  ·rename_i e; rw [if_pos e] at hne; exact ih (by omega) hne
  ·rename_i e
   rw [List.length_take,Nat.min_eq_left hn,Nat.add_sub_cancel,AA l 0 n (n+1) (by omega)]
   exact e
theorem cW {l:List Int} (h:Jh l):l.take (Zz l l.length)=X8 (val l).toNat:=by
 have h1:=V1 h l.length (Nat.le_refl _)
 rw [← A0 h1,SN _ (Nat.le_refl _),List.take_length]
def sm (f:Nat→Int):Nat→Int
 | 0=>0
 | n+1=>sm f n+pw n*f n
def A4 (f:Nat→Int) (n:Nat):List Int:=(List.range n).map f
theorem Q3 (f:Nat→Int) (n:Nat):(A4 f n).length=n:=by simp [A4]
theorem DE (f:Nat→Int) (n:Nat):A4 f (n+1)=A4 f n ++ [f n]:=by simp [A4,List.range_succ]
theorem BB (f:Nat→Int) (n i:Nat) (h:i<n):(A4 f n).getD i 0=f i:=by simp [A4,List.getD_eq_getElem?_getD,h]
theorem Ks {f f':Nat→Int} {n:Nat} (h:∀ k,k<n→f k=f' k):A4 f n=A4 f' n:=List.map_congr_left fun k hk=>h k (by simpa using hk)
theorem G4 (f:Nat→Int):∀ n,val (A4 f n)=sm f n
 | 0=>rfl
 | n+1=>by rw [DE,DG,Q3,G4 f n]; rfl
theorem Wy (l:List Int):∀ n,n≤l.length→sm (fun i=>l.getD i 0) n=val (l.take n)
 | 0,_=>rfl
 | n+1,h=>by rw [Jg l n h,← Wy l n (by omega)]; rfl
theorem tZ (l:List Int) (n:Nat) (h:l.length≤n):sm (fun i=>l.getD i 0) n=val l:=by
 obtain ⟨k,rfl⟩:=Nat.exists_eq_add_of_le h
 induction k with
 | zero=>rw [Nat.add_zero,Wy l _ (Nat.le_refl _),List.take_length]
 | succ k ih =>
  rw [show l.length+(k+1)=(l.length+k)+1 by omega]
  simp only [sm]
  rw [ih (by omega)]
  have:l.getD (l.length+k) 0=0:=by rw [List.getD_eq_getElem?_getD,List.getElem?_eq_none (by omega)]; rfl
  rw [this]; simp
theorem Ca {f:Nat→Int} {n:Nat} (h:∀ i,i<n→XW (f i)):Jh (A4 f n):=by
 refine MN fun i hi=>?_
 rw [Q3] at hi
 rw [BB _ _ _ hi]; exact h i hi
def Qa (a b:Nat→Int):Nat→Int
 | 0=>0
 | i+1=>if 1000000000≤a i+b i+Qa a b i then 1 else 0
def ZJ (a b:Nat→Int) (i:Nat):Int:=if 1000000000≤a i+b i+Qa a b i then a i+b i+Qa a b i - 1000000000 else a i+b i+Qa a b i
theorem CQ (a b:Nat→Int):∀ i,Qa a b i=0∨Qa a b i=1
 | 0=>.inl rfl
 | i+1=>by simp only [Qa]; split <;> simp
theorem Pd {a b:Nat→Int} {i:Nat} (ha:XW (a i)) (hb:XW (b i)):XW (ZJ a b i):=by
 have:=CQ a b i
 unfold XW at *
 unfold ZJ
 split <;> omega
theorem NS (a b:Nat→Int):∀ n,sm (ZJ a b) n+pw n*Qa a b n=sm a n+sm b n
 | 0=>by simp [sm,Qa]
 | n+1=>by
  have ih:=NS a b n
  have e:ZJ a b n+1000000000*Qa a b (n+1)=a n+b n+Qa a b n:=by
   simp only [ZJ,Qa]
   split <;> omega
  simp only [sm,pw]
  have:pw n*(ZJ a b n+1000000000*Qa a b (n+1))=pw n*(a n+b n+Qa a b n):=by rw [e]
  grind
def JE (a b:Nat→Int):Nat→Int
 | 0=>0
 | i+1=>if a i - b i - JE a b i<0 then 1 else 0
def At (a b:Nat→Int) (i:Nat):Int:=if a i - b i - JE a b i<0 then a i - b i - JE a b i+1000000000 else a i - b i - JE a b i
theorem FY (a b:Nat→Int):∀ i,JE a b i=0∨JE a b i=1
 | 0=>.inl rfl
 | i+1=>by simp only [JE]; split <;> simp
theorem SJ {a b:Nat→Int} {i:Nat} (ha:XW (a i)) (hb:XW (b i)):XW (At a b i):=by
 have:=FY a b i
 unfold XW at *
 unfold At
 split <;> omega
theorem OT (a b:Nat→Int):∀ n,sm (At a b) n - pw n*JE a b n=sm a n - sm b n
 | 0=>by simp [sm,JE]
 | n+1=>by
  have ih:=OT a b n
  have e:At a b n - 1000000000*JE a b (n+1)=a n - b n - JE a b n:=by
   simp only [At,JE]
   split <;> omega
  simp only [sm,pw]
  have:pw n*(At a b n - 1000000000*JE a b (n+1))=pw n*(a n - b n - JE a b n):=by rw [e]
  grind
theorem qh {f:Nat→Int}:∀ {n:Nat},(∀ i,i<n→XW (f i))→0≤sm f n∧sm f n<pw n
 | 0,_=>by simp [sm,pw]
 | n+1,h=>by
  obtain ⟨h1,h2⟩:=qh (n:=n) fun i hi=>h i (by omega)
  have h3:=h n (by omega)
  have h4:=JI n
  unfold XW at h3
  have h5:pw n*f n≤pw n*999999999:=Int.mul_le_mul_of_nonneg_left (by omega) (by omega)
  have h6:0≤pw n*f n:=Int.mul_nonneg (by omega) h3.1
  simp only [sm,pw]; omega
theorem WA {a b:Nat→Int} {n:Nat} (ha:∀ i,i<n→XW (a i)) (hb:∀ i,i<n→XW (b i)) (h:sm b n≤sm a n):JE a b n=0:=by
 have h1:=OT a b n
 have h2:=(qh (f:=At a b) (n:=n) fun i hi=>SJ (ha i hi) (hb i hi)).2
 rcases FY a b n with e | e
 ·exact e
 ·rw [e] at h1; omega
theorem Qt (l:List Int) (i j:Nat) (x:Int) (hi:i<l.length):(l.set i x).getD j 0=if j=i then x else l.getD j 0:=by
 simp only [List.getD_eq_getElem?_getD,List.getElem?_set]
 by_cases h:i=j
 ·subst h; simp [hi]
 ·simp [h,Ne.symm h]
theorem Bs:∀ (l:List Int) (i:Nat) (x:Int),i<l.length→val (l.set i x)=val l+pw i*(x - l.getD i 0)
 | [],_,_,h=>by simp at h
 | d :: l,0,x,_=>by simp [val,pw]; omega
 | d :: l,i+1,x,h=>by
  have ih:=Bs l i x (by simpa using h)
  simp only [List.set_cons_succ,val,pw,List.getD_cons_succ]
  rw [ih,Int.mul_add,Int.mul_assoc]; omega
theorem DN {l:List Int} (h:Jh l) (i:Nat) {x:Int} (hx:XW x):Jh (l.set i x):=fun d hd=>by
 rcases List.mem_or_eq_of_mem_set hd with e | e
 ·exact h d e
 ·rw [e]; exact hx
theorem AK {x y:Int} (hx:XW x) (hy:XW y):0≤x*y∧x*y≤999999998000000001:=by
 unfold XW at hx hy
 have h1:0≤x*y:=Int.mul_nonneg hx.1 hy.1
 have h2:x*y≤999999999*y:=Int.mul_le_mul_of_nonneg_right (by omega) hy.1
 omega
theorem K8 (l:List Int) (i:Nat) (h:i<l.length):val (l.drop i)=l.getD i 0+1000000000*val (l.drop (i+1)):=by
 rw [List.drop_eq_getElem_cons h]
 simp only [val]
 rw [List.getD_eq_getElem?_getD,List.getElem?_eq_getElem h]; rfl
theorem Jp (l:List Int) (i:Nat) (h:i≤l.length):val l=val (l.take i)+pw i*val (l.drop i):=by
 conv=>lhs; rw [← List.take_append_drop i l]
 rw [OY,List.length_take,Nat.min_eq_left h]
def Kg (a:Nat→Int) (k:Int):Nat→Int
 | 0=>0
 | i+1=>(a i*k+Kg a k i) / 1000000000
def EP (a:Nat→Int) (k:Int) (i:Nat):Int:=(a i*k+Kg a k i) % 1000000000
theorem BQ {a:Nat→Int} {k:Int} (ha:∀ i,XW (a i)) (hk:XW k):∀ i,XW (Kg a k i)
 | 0=>⟨by simp [Kg],by simp [Kg]⟩
 | i+1=>by
  have h1:=BQ ha hk i
  have h2:=AK (ha i) hk
  simp only [Kg]; unfold XW at *; omega
theorem iL {a:Nat→Int} {k:Int} (ha:∀ i,XW (a i)) (hk:XW k) (i:Nat):XW (EP a k i):=by
 unfold EP XW; omega
theorem W2 (a:Nat→Int) (k:Int):∀ n,sm (EP a k) n+pw n*Kg a k n=sm a n*k
 | 0=>by simp [sm,Kg]
 | n+1=>by
  have ih:=W2 a k n
  have e:EP a k n+1000000000*Kg a k (n+1)=a n*k+Kg a k n:=by
   simp only [EP,Kg]; omega
  have e2:pw n*(EP a k n+1000000000*Kg a k (n+1))=pw n*(a n*k+Kg a k n):=by rw [e]
  simp only [sm,pw]
  grind
def JN (a:List Int) (b:Int) (i:Nat):Int:=val (a.drop i) % b
def Zy (a:List Int) (b:Int) (i:Nat):Int:=(JN a b (i+1)*1000000000+a.getD i 0) / b
theorem GD (a:List Int) (b:Int) (i:Nat) (h:i<a.length):JN a b i=(JN a b (i+1)*1000000000+a.getD i 0) % b:=by
 unfold JN
 rw [K8 a i h]
 rw [Int.add_comm,Int.mul_comm,Int.add_emod,Int.mul_emod]
 conv=>rhs; rw [Int.add_emod,Int.mul_emod,Int.emod_emod_of_dvd _ (Int.dvd_refl b)]
theorem Lh (a:List Int) (b:Int):JN a b a.length=0:=by unfold JN; simp [val]
theorem Dq {a:List Int} {b:Int} (ha:Jh a) (hb:0<b) (i:Nat):XW (Zy a b i):=by
 have h1:=Int.emod_nonneg (val (a.drop (i+1))) (show b≠0 by omega)
 have h2:=Int.emod_lt_of_pos (val (a.drop (i+1))) hb
 have h3:=Jq ha i
 unfold XW at *
 unfold Zy JN
 refine ⟨Int.ediv_nonneg (by omega) (by omega),Int.ediv_lt_of_lt_mul hb ?_⟩
 omega
theorem Wn {a:List Int} {b:Int} (hb:0<b):∀ i,i≤a.length→val (a.drop (a.length - i))=b*val ((A4 (Zy a b) a.length).drop (a.length - i))+JN a b (a.length - i)
 | 0,_=>by
  have e:(A4 (Zy a b) a.length).drop a.length=[]:=by rw [List.drop_eq_nil_iff,Q3]; exact Nat.le_refl _
  simp [e,Lh,val]
 | i+1,h=>by
  have ih:=Wn (a:=a) hb i (by omega)
  obtain ⟨k,hk⟩:∃ k,a.length - (i+1)=k:=⟨_,rfl⟩
  have hk1:a.length - i=k+1:=by omega
  rw [hk1] at ih
  rw [hk]
  rw [K8 a k (by omega),K8 (A4 (Zy a b) a.length) k (by rw [Q3]; omega),BB _ _ _ (show k<a.length by omega)]
  have e:=Int.mul_ediv_add_emod (JN a b (k+1)*1000000000+a.getD k 0) b
  have e2:=GD a b k (by omega)
  have e3:Zy a b k=(JN a b (k+1)*1000000000+a.getD k 0) / b:=rfl
  rw [← e3,← e2] at e
  grind
theorem OH {a:List Int} {b:Int} (hb:0<b):val a=b*val (A4 (Zy a b) a.length)+JN a b 0:=by
 have:=Wn (a:=a) hb a.length (Nat.le_refl _)
 simpa using this
def zA (z:Int):AV:=.agg [.bool (decide (z<0)),X4 (X8 z.natAbs)]
theorem XC (z:Int):Settled (zA z):=Qo (by simp [X6,X2])
theorem pW:(!(true == false))=true:=Go.Ab.nrfl rfl
theorem pV:(!(false == true))=true:=Go.Ab.nrfl rfl
theorem pX:(!(true == true))=false:=Go.Ab.nrfl rfl
theorem pU:(!(false == false))=false:=Go.Ab.nrfl rfl
set_option linter.defProp false in
def wN:=And.intro pW (And.intro pV (And.intro pX pU))
def Kn (neg:Bool) (v:Int):Int:=if neg=true then -v else v
theorem digs_len_zero {n:Nat}:(X8 n).length=0↔n=0:=by rw [List.length_eq_zero_iff,Ok]
theorem pY {l:List Int} (h:Jh l) (neg:Bool):zA (Kn neg (val l))=.agg [.bool (neg && decide (Zz l l.length≠0)),X4 (l.take (Zz l l.length))]:=by
 have h0:=XS h
 have e1:(Kn neg (val l)).natAbs=(val l).toNat:=by unfold Kn; split <;> omega
 have e2:=cW h
 have hle:=WF l l.length
 have e3:Zz l l.length=0↔val l=0:=by
  have h1:(l.take (Zz l l.length)).length=Zz l l.length:=by rw [List.length_take,Nat.min_eq_left hle]
  rw [← h1,e2,digs_len_zero]; omega
 unfold zA
 rw [e1,e2]
 congr 3
 unfold Kn
 have h0':¬ val l<0:=by omega
 cases neg
 ·simp [h0']
 ·have:-val l<0↔¬ Zz l l.length=0:=by rw [e3]; omega
  simp only [if_true,Bool.true_and,decide_eq_decide]
  exact this
theorem IE {d:Nat} (h0:d≠0) (h:d<1000000000):X8 d=[(d:Int)]:=by
 rw [A7 h0,show d / 1000000000=0 by omega,XV,show d % 1000000000=d by omega]
theorem PN {d:Nat} (h0:1000000000≤d) (h:d<1000000000000000000):X8 d=[((d % 1000000000:Nat):Int),((d / 1000000000:Nat):Int)]:=by
 rw [A7 (by omega),IE (by omega) (by omega)]
theorem TW {d:Nat} (h0:1000000000000000000≤d) (h:d<18446744073709551616) :
  X8 d=[((d % 1000000000:Nat):Int),((d / 1000000000 % 1000000000:Nat):Int),((d / 1000000000 / 1000000000:Nat):Int)]:=by
 rw [A7 (by omega),PN (by omega) (by omega)]
def dg (l:List Int):Nat→Int:=fun i=>l.getD i 0
theorem Q2 {l:List Int} (h:Jh l) (i:Nat):XW (dg l i):=Jq h i
theorem Gk {l:List Int} {i:Nat} (h:l.length≤i):dg l i=0:=by unfold dg; rw [List.getD_eq_getElem?_getD,List.getElem?_eq_none h]; rfl
theorem DC (l:List Int) (n:Nat) (h:l.length≤n):sm (dg l) n=val l:=tZ l n h
def Zf (a b:List Int) (n:Nat):List Int:=A4 (ZJ (dg a) (dg b)) n ++ [Qa (dg a) (dg b) n]
theorem Nu (a b:List Int) (n:Nat) (ha:a.length≤n) (hb:b.length≤n):val (Zf a b n)=val a+val b:=by
 unfold Zf
 rw [DG,Q3,G4,NS,DC a n ha,DC b n hb]
theorem Nt {a b:List Int} (ha:Jh a) (hb:Jh b) (n:Nat):Jh (Zf a b n):=by
 unfold Zf
 refine HT.2 ⟨Ca fun i _=>Pd (Q2 ha i) (Q2 hb i),Kz.2 ⟨?_,Be⟩⟩
 have:=CQ (dg a) (dg b) n
 unfold XW; omega
theorem DW (a b:List Int) (n:Nat):(Zf a b n).length=n+1:=by simp [Zf,Q3]
def KV (a b:List Int):List Int:=A4 (At (dg a) (dg b)) a.length
theorem AP {a b:List Int} (ha:Jh a) (hb:Jh b) (hl:b.length≤a.length) (h:val b≤val a):val (KV a b)=val a - val b:=by
 unfold KV
 have e:=WA (n:=a.length) (fun i _=>Q2 ha i) (fun i _=>Q2 hb i) (by rw [DC b _ hl,DC a _ (Nat.le_refl _)]; exact h)
 have e2:=OT (dg a) (dg b) a.length
 rw [e,DC a _ (Nat.le_refl _),DC b _ hl] at e2
 rw [G4]; omega
theorem AN {a b:List Int} (ha:Jh a) (hb:Jh b):Jh (KV a b):=Ca fun i _=>SJ (Q2 ha i) (Q2 hb i)
def J2 (a b:List Int) (i:Nat):List Int:=A4 (fun j=>if j<i then At (dg a) (dg b) j else if j=i then dg a j - JE (dg a) (dg b) i else dg a j) a.length
theorem jP (l:List Int):A4 (dg l) l.length=l:=by
 refine List.ext_getElem (by simp [A4]) fun i h1 h2=>?_
 simp [A4,dg,List.getD_eq_getElem?_getD,h2]
theorem RG (a b:List Int):J2 a b 0=a:=by
 unfold J2
 conv=>rhs; rw [← jP a]
 refine Ks fun k _=>?_
 rw [if_neg (by omega)]
 split
 ·simp [JE]
 ·rfl
theorem Uo (a b:List Int):J2 a b a.length=KV a b:=Ks fun k hk=>by rw [if_pos hk]
theorem Am (f:Nat→Int) (n k:Nat) (x:Int) (h:k<n):(A4 f n).set k x=A4 (fun q=>if q=k then x else f q) n:=by
 refine List.ext_getElem (by simp [A4]) fun q h1 h2=>?_
 have hq:q<n:=by simpa [Q3] using h2
 by_cases e:k=q
 ·subst e; simp [A4]
 ·simp [A4,List.getElem_set,e,Ne.symm e]
end
end Go.Ab.N
namespace Go.Ab.N
open Go Go.Ab
open Classical
noncomputable section
theorem QY {l m:List AV} (h:WeakL l m):Weak (.agg l) (.agg m):=fun c v hv=>by
 cases hv with
 | agg vs _ hs hr =>
  have:=(kw h) c (.tuple vs) (.tup vs _ hs hr)
  cases this with
  | tup _ _ hs' hr'=>exact .agg vs m hs' hr'
theorem Qi (f:Nat→AV) (t:Bool):Weak (.sl 0 0 f t) (X4 []):=DH rfl (Nat.le_refl _) fun j hj=>by exact absurd hj (Nat.not_lt_zero j)
theorem Zk {n:Nat} {L:List AV} {l:List Int} {t:Bool} (hn:n=l.length) (h:L=l.map I):Weak (.sl n n (Xk L) t) (X4 l):=by
 subst hn; subst h; exact G8 l t
theorem MH (L:List AV):∀ n off,off+n=L.length→Qz (Xk L) off 0 n=L.drop off:=by
 have key:∀ n off j,off+j+n=L.length→Qz (Xk L) off j n=L.drop (off+j):=by
  intro n
  induction n with
  | zero=>intro off j h; rw [List.drop_eq_nil_iff.2 (by omega)]; rfl
  | succ n ih =>
   intro off j h
   rw [List.drop_eq_getElem_cons (by omega)]
   simp only [Qz]
   rw [ih off (j+1) (by omega)]
   congr 1
   show L.getD (off+j) .any=_
   rw [List.getD_eq_getElem?_getD,List.getElem?_eq_getElem (by omega)]; rfl
 intro n off h
 rw [key n off 0 (by omega)]; rfl
theorem tU {P:Program} {fn:Func} {str hcs:List Nat} {r:AV} {s:AS} {t u id ver n:Nat} {L:List AV} (hr:fn.results=#[.cell t u]) (hk:BD P u=some (some n)) (hs:s.get t=.ref id ver 0)
  (ho:s.h[id]?=some (.row ver n (Xk L))) (hn:L.length=n) (h:JH s.h (.agg L) r):RetOk (QS P fn str hcs r) s:=by
 subst hn
 refine FQ (v:=.agg L) hr ?_ h
 rw [hs,O0,hk,Ey,ho,Ez,tP,MH L _ _ (by omega)]
 simp [Qd]
theorem Q9 {P:Program} {fn:Func} {str hcs:List Nat} {r:AV} {s:AS} {t u id ver n:Nat} {L M:List AV} (hr:fn.results=#[.cell t u]) (hk:BD P u=some (some n)) (hs:s.get t=.ref id ver 0)
  (ho:s.h[id]?=some (.row ver n (Xk L))) (hn:L.length=n) (e:r=.agg M) (hset:Settled r) (h:WeakL L M):RetOk (QS P fn str hcs r) s:=by
 refine tU hr hk hs ho hn ?_
 subst e
 exact XK hset (QY h)
end
end Go.Ab.N
namespace Go.Ab.N
open Go Go.RowKit Go.Proofs
theorem xc:BD Tryz.prog 3=some none:=by kernel_rfl
theorem ub:Z5 Tryz.prog 3=some 1:=by kernel_rfl
theorem xa:aR Tryz.prog 3=some .i64:=by kernel_rfl
theorem uq:QF Tryz.prog 3=some [.int .i64 0]:=by kernel_rfl
theorem xd:BD Tryz.prog 4=some none:=by kernel_rfl
theorem uc:Z5 Tryz.prog 4=some 1:=by kernel_rfl
theorem re:Ir Tryz.prog 4=true:=by kernel_rfl
theorem ur:QF Tryz.prog 4=some [.bool false]:=by kernel_rfl
theorem vK:BD Tryz.prog 22=some none:=by kernel_rfl
theorem oO:Z5 Tryz.prog 22=some 1:=by kernel_rfl
theorem pM:Aq Tryz.prog 22=some (3,1,8):=by kernel_rfl
theorem vM:BD Tryz.prog 23=some none:=by kernel_rfl
theorem vf:Aq Tryz.prog 23=some (110,2,16):=by kernel_rfl
theorem vO:BD Tryz.prog 24=some none:=by kernel_rfl
theorem oP:Z5 Tryz.prog 24=some 1:=by kernel_rfl
theorem vg:Aq Tryz.prog 24=some (4,1,1):=by kernel_rfl
theorem XO:BD Tryz.prog 26=some (some 2):=by kernel_rfl
theorem oQ:Z5 Tryz.prog 26=some 2:=by kernel_rfl
theorem mP:CP Tryz.prog 26 0=some (0,1,none):=by kernel_rfl
theorem lG:QH Tryz.prog 26 0=some (0,1):=by kernel_rfl
theorem mQ:CP Tryz.prog 26 1=some (1,1,none):=by kernel_rfl
theorem lH:QH Tryz.prog 26 1=some (1,1):=by kernel_rfl
theorem uS:Au Tryz.prog 26=true:=by kernel_rfl
theorem pf:QF Tryz.prog 26=some [.bool false,.sl 0 0 (fun _=>.any) true]:=by kernel_rfl
theorem Qh:BD Tryz.prog 28=some (some 4):=by kernel_rfl
theorem oR:Z5 Tryz.prog 28=some 4:=by kernel_rfl
theorem mR:CP Tryz.prog 28 0=some (0,2,some 2):=by kernel_rfl
theorem lI:QH Tryz.prog 28 0=some (0,2):=by kernel_rfl
theorem mS:CP Tryz.prog 28 1=some (2,2,some 2):=by kernel_rfl
theorem lJ:QH Tryz.prog 28 1=some (2,2):=by kernel_rfl
theorem uT:Au Tryz.prog 28=true:=by kernel_rfl
theorem pg:QF Tryz.prog 28=some [.bool false,.sl 0 0 (fun _=>.any) true,.bool false,.sl 0 0 (fun _=>.any) true]:=by kernel_rfl
theorem ir:BD Tryz.prog 30=some (some 25):=by kernel_rfl
theorem oS:Z5 Tryz.prog 30=some 25:=by kernel_rfl
theorem lK:QH Tryz.prog 30 0=some (0,1):=by kernel_rfl
theorem lM:QH Tryz.prog 30 1=some (1,1):=by kernel_rfl
theorem mT:CP Tryz.prog 30 2=some (2,1,none):=by kernel_rfl
theorem lN:QH Tryz.prog 30 2=some (2,1):=by kernel_rfl
theorem mU:CP Tryz.prog 30 3=some (3,1,none):=by kernel_rfl
theorem lO:QH Tryz.prog 30 3=some (3,1):=by kernel_rfl
theorem mV:CP Tryz.prog 30 4=some (4,1,none):=by kernel_rfl
theorem lP:QH Tryz.prog 30 4=some (4,1):=by kernel_rfl
theorem mW:CP Tryz.prog 30 5=some (5,4,some 4):=by kernel_rfl
theorem lQ:QH Tryz.prog 30 5=some (5,4):=by kernel_rfl
theorem lS:QH Tryz.prog 30 6=some (9,4):=by kernel_rfl
theorem lU:QH Tryz.prog 30 7=some (13,4):=by kernel_rfl
theorem lV:QH Tryz.prog 30 8=some (17,4):=by kernel_rfl
theorem lX:QH Tryz.prog 30 9=some (21,4):=by kernel_rfl
theorem uU:Au Tryz.prog 30=true:=by kernel_rfl
theorem ph:QF Tryz.prog 30=some [.int .i64 0,.int .i64 0,.sl 0 0 (fun _=>.any) true,.sl 0 0 (fun _=>.any) true,.sl 0 0 (fun _=>.any) true,.bool false,.sl 0 0 (fun _=>.any) true,.bool false,.sl 0 0 (fun _=>.any) true,.bool false,.sl 0 0 (fun _=>.any) true,.bool false,.sl 0 0 (fun _=>.any) true,.bool false,.sl 0 0 (fun _=>.any) true,.bool false,.sl 0 0 (fun _=>.any) true,.bool false,.sl 0 0 (fun _=>.any) true,.bool false,.sl 0 0 (fun _=>.any) true,.bool false,.sl 0 0 (fun _=>.any) true,.bool false,.sl 0 0 (fun _=>.any) true]:=by kernel_rfl
theorem vk:Aq Tryz.prog 35=some (28,4,64):=by kernel_rfl
theorem N9:BD Tryz.prog 48=some (some 8):=by kernel_rfl
theorem oT:Z5 Tryz.prog 48=some 8:=by kernel_rfl
theorem mX:CP Tryz.prog 48 0=some (0,4,some 4):=by kernel_rfl
theorem lY:QH Tryz.prog 48 0=some (0,4):=by kernel_rfl
theorem mY:CP Tryz.prog 48 1=some (4,4,some 4):=by kernel_rfl
theorem lZ:QH Tryz.prog 48 1=some (4,4):=by kernel_rfl
theorem uV:Au Tryz.prog 48=true:=by kernel_rfl
theorem pi:QF Tryz.prog 48=some [.bool false,.sl 0 0 (fun _=>.any) true,.bool false,.sl 0 0 (fun _=>.any) true,.bool false,.sl 0 0 (fun _=>.any) true,.bool false,.sl 0 0 (fun _=>.any) true]:=by kernel_rfl
theorem Kc:BD Tryz.prog 50=some (some 8):=by kernel_rfl
theorem oU:Z5 Tryz.prog 50=some 8:=by kernel_rfl
theorem mZ:CP Tryz.prog 50 0=some (0,4,some 4):=by kernel_rfl
theorem m7:QH Tryz.prog 50 0=some (0,4):=by kernel_rfl
theorem nc:CP Tryz.prog 50 1=some (4,4,some 4):=by kernel_rfl
theorem m8:QH Tryz.prog 50 1=some (4,4):=by kernel_rfl
theorem uW:Au Tryz.prog 50=true:=by kernel_rfl
theorem pj:QF Tryz.prog 50=some [.bool false,.sl 0 0 (fun _=>.any) true,.bool false,.sl 0 0 (fun _=>.any) true,.bool false,.sl 0 0 (fun _=>.any) true,.bool false,.sl 0 0 (fun _=>.any) true]:=by kernel_rfl
theorem vP:BD Tryz.prog 52=some (some 29):=by kernel_rfl
theorem oV:Z5 Tryz.prog 52=some 29:=by kernel_rfl
theorem nd:CP Tryz.prog 52 0=some (0,1,none):=by kernel_rfl
theorem nh:CP Tryz.prog 52 1=some (1,1,none):=by kernel_rfl
theorem m9:QH Tryz.prog 52 1=some (1,1):=by kernel_rfl
theorem nk:CP Tryz.prog 52 2=some (2,1,none):=by kernel_rfl
theorem ma:QH Tryz.prog 52 2=some (2,1):=by kernel_rfl
theorem nl:CP Tryz.prog 52 3=some (3,1,none):=by kernel_rfl
theorem mb:QH Tryz.prog 52 3=some (3,1):=by kernel_rfl
theorem nm:CP Tryz.prog 52 4=some (4,1,none):=by kernel_rfl
theorem mc:QH Tryz.prog 52 4=some (4,1):=by kernel_rfl
theorem nn:CP Tryz.prog 52 5=some (5,8,some 8):=by kernel_rfl
theorem md:QH Tryz.prog 52 5=some (5,8):=by kernel_rfl
theorem np:CP Tryz.prog 52 6=some (13,8,some 8):=by kernel_rfl
theorem nq:CP Tryz.prog 52 7=some (21,8,some 8):=by kernel_rfl
theorem uX:Au Tryz.prog 52=true:=by kernel_rfl
theorem pk:QF Tryz.prog 52=some [.int .i64 0,.int .i64 0,.int .i64 0,.int .i64 0,.int .i64 0,.bool false,.sl 0 0 (fun _=>.any) true,.bool false,.sl 0 0 (fun _=>.any) true,.bool false,.sl 0 0 (fun _=>.any) true,.bool false,.sl 0 0 (fun _=>.any) true,.bool false,.sl 0 0 (fun _=>.any) true,.bool false,.sl 0 0 (fun _=>.any) true,.bool false,.sl 0 0 (fun _=>.any) true,.bool false,.sl 0 0 (fun _=>.any) true,.bool false,.sl 0 0 (fun _=>.any) true,.bool false,.sl 0 0 (fun _=>.any) true,.bool false,.sl 0 0 (fun _=>.any) true,.bool false,.sl 0 0 (fun _=>.any) true]:=by kernel_rfl
theorem VV:BD Tryz.prog 54=some (some 79):=by kernel_rfl
theorem oW:Z5 Tryz.prog 54=some 79:=by kernel_rfl
theorem ns:CP Tryz.prog 54 0=some (0,25,some 25):=by kernel_rfl
theorem me:QH Tryz.prog 54 0=some (0,25):=by kernel_rfl
theorem nt:CP Tryz.prog 54 1=some (25,25,some 25):=by kernel_rfl
theorem mf:QH Tryz.prog 54 1=some (25,25):=by kernel_rfl
theorem nu:CP Tryz.prog 54 2=some (50,29,some 29):=by kernel_rfl
theorem uY:Au Tryz.prog 54=true:=by kernel_rfl
theorem pm:QF Tryz.prog 54=some [.int .i64 0,.int .i64 0,.sl 0 0 (fun _=>.any) true,.sl 0 0 (fun _=>.any) true,.sl 0 0 (fun _=>.any) true,.bool false,.sl 0 0 (fun _=>.any) true,.bool false,.sl 0 0 (fun _=>.any) true,.bool false,.sl 0 0 (fun _=>.any) true,.bool false,.sl 0 0 (fun _=>.any) true,.bool false,.sl 0 0 (fun _=>.any) true,.bool false,.sl 0 0 (fun _=>.any) true,.bool false,.sl 0 0 (fun _=>.any) true,.bool false,.sl 0 0 (fun _=>.any) true,.bool false,.sl 0 0 (fun _=>.any) true,.bool false,.sl 0 0 (fun _=>.any) true,.int .i64 0,.int .i64 0,.sl 0 0 (fun _=>.any) true,.sl 0 0 (fun _=>.any) true,.sl 0 0 (fun _=>.any) true,.bool false,.sl 0 0 (fun _=>.any) true,.bool false,.sl 0 0 (fun _=>.any) true,.bool false,.sl 0 0 (fun _=>.any) true,.bool false,.sl 0 0 (fun _=>.any) true,.bool false,.sl 0 0 (fun _=>.any) true,.bool false,.sl 0 0 (fun _=>.any) true,.bool false,.sl 0 0 (fun _=>.any) true,.bool false,.sl 0 0 (fun _=>.any) true,.bool false,.sl 0 0 (fun _=>.any) true,.bool false,.sl 0 0 (fun _=>.any) true,.int .i64 0,.int .i64 0,.int .i64 0,.int .i64 0,.int .i64 0,.bool false,.sl 0 0 (fun _=>.any) true,.bool false,.sl 0 0 (fun _=>.any) true,.bool false,.sl 0 0 (fun _=>.any) true,.bool false,.sl 0 0 (fun _=>.any) true,.bool false,.sl 0 0 (fun _=>.any) true,.bool false,.sl 0 0 (fun _=>.any) true,.bool false,.sl 0 0 (fun _=>.any) true,.bool false,.sl 0 0 (fun _=>.any) true,.bool false,.sl 0 0 (fun _=>.any) true,.bool false,.sl 0 0 (fun _=>.any) true,.bool false,.sl 0 0 (fun _=>.any) true,.bool false,.sl 0 0 (fun _=>.any) true]:=by kernel_rfl
theorem vQ:BD Tryz.prog 57=some none:=by kernel_rfl
theorem oX:Z5 Tryz.prog 57=some 1:=by kernel_rfl
theorem vn:Aq Tryz.prog 57=some (52,29,424):=by kernel_rfl
theorem po:QF Tryz.prog 57=some [.sl 0 0 (fun _=>.any) true]:=by kernel_rfl
theorem vR:BD Tryz.prog 81=some none:=by kernel_rfl
theorem oY:Z5 Tryz.prog 81=some 1:=by kernel_rfl
theorem vo:Aq Tryz.prog 81=some (50,8,128):=by kernel_rfl
theorem pq:QF Tryz.prog 81=some [.sl 0 0 (fun _=>.any) true]:=by kernel_rfl
theorem vS:BD Tryz.prog 84=some (some 16):=by kernel_rfl
theorem oZ:Z5 Tryz.prog 84=some 16:=by kernel_rfl
theorem nv:CP Tryz.prog 84 0=some (0,8,some 8):=by kernel_rfl
theorem mg:QH Tryz.prog 84 0=some (0,8):=by kernel_rfl
theorem nw:CP Tryz.prog 84 1=some (8,8,some 8):=by kernel_rfl
theorem mh:QH Tryz.prog 84 1=some (8,8):=by kernel_rfl
theorem uZ:Au Tryz.prog 84=true:=by kernel_rfl
theorem pr:QF Tryz.prog 84=some [.bool false,.sl 0 0 (fun _=>.any) true,.bool false,.sl 0 0 (fun _=>.any) true,.bool false,.sl 0 0 (fun _=>.any) true,.bool false,.sl 0 0 (fun _=>.any) true,.bool false,.sl 0 0 (fun _=>.any) true,.bool false,.sl 0 0 (fun _=>.any) true,.bool false,.sl 0 0 (fun _=>.any) true,.bool false,.sl 0 0 (fun _=>.any) true]:=by kernel_rfl
theorem ip:BD Tryz.prog 110=some (some 2):=by kernel_rfl
theorem jS:Z5 Tryz.prog 110=some 2:=by kernel_rfl
theorem gP:CP Tryz.prog 110 0=some (0,1,none):=by kernel_rfl
theorem fj:QH Tryz.prog 110 0=some (0,1):=by kernel_rfl
theorem gQ:CP Tryz.prog 110 1=some (1,1,none):=by kernel_rfl
theorem fl:QH Tryz.prog 110 1=some (1,1):=by kernel_rfl
theorem r7:Au Tryz.prog 110=true:=by kernel_rfl
theorem kB:QF Tryz.prog 110=some [.int .i64 0,.int .i64 0]:=by kernel_rfl
theorem rY:BD Tryz.prog 122=some (some 2):=by kernel_rfl
theorem jT:Z5 Tryz.prog 122=some 2:=by kernel_rfl
theorem rr:Aq Tryz.prog 122=none:=by kernel_rfl
theorem fm:QH Tryz.prog 122 0=some (0,1):=by kernel_rfl
theorem fo:QH Tryz.prog 122 1=some (1,1):=by kernel_rfl
theorem r8:Au Tryz.prog 122=true:=by kernel_rfl
theorem qU:Yx Tryz.prog 122=some (2,1,none):=by kernel_rfl
theorem kC:QF Tryz.prog 122=some [.int .i64 0,.int .i64 0]:=by kernel_rfl
theorem rs:Aq Tryz.prog 123=some (122,2,16):=by kernel_rfl
theorem rt:Aq Tryz.prog 148=some (48,8,128):=by kernel_rfl
theorem rR:aR Tryz.prog 187=some .u64:=by kernel_rfl
theorem rZ:BD Tryz.prog 191=some none:=by kernel_rfl
theorem ru:Aq Tryz.prog 191=some (81,1,24):=by kernel_rfl
theorem rS:aR Tryz.prog 197=some .u64:=by kernel_rfl
theorem ry:Aq Tryz.prog 241=some (244,3,24):=by kernel_rfl
theorem iq:BD Tryz.prog 244=some (some 3):=by kernel_rfl
theorem jU:Z5 Tryz.prog 244=some 3:=by kernel_rfl
theorem rz:Aq Tryz.prog 244=none:=by kernel_rfl
theorem fp:QH Tryz.prog 244 0=some (0,1):=by kernel_rfl
theorem fq:QH Tryz.prog 244 1=some (1,1):=by kernel_rfl
theorem ft:QH Tryz.prog 244 2=some (2,1):=by kernel_rfl
theorem r9:Au Tryz.prog 244=true:=by kernel_rfl
theorem qV:Yx Tryz.prog 244=some (3,1,none):=by kernel_rfl
theorem kD:QF Tryz.prog 244=some [.int .i64 0,.int .i64 0,.int .i64 0]:=by kernel_rfl
theorem s8:BD Tryz.prog 249=some none:=by kernel_rfl
theorem gR:CP Tryz.prog 252 0=some (0,1,none):=by kernel_rfl
theorem fu:QH Tryz.prog 252 0=some (0,1):=by kernel_rfl
theorem gS:CP Tryz.prog 252 1=some (1,1,none):=by kernel_rfl
theorem rc:Au Tryz.prog 252=true:=by kernel_rfl
theorem kE:QF Tryz.prog 252=some [.sl 0 0 (fun _=>.any) true,.sl 0 0 (fun _=>.any) true]:=by kernel_rfl
theorem mixed:Tryz.prog.follows .mixedOrders=true:=by kernel_rfl
theorem Fq {f:FuncId} {fn:Func} {body:Code} {args:List AV} {r:AV} (he:ZH Tryz.prog f) (hf:Tryz.prog.funcs[f]?=some fn) (n0:Nat) (hid str hcs:List Nat) (hs:∀ a∈args,Settled a) (h:Run (QS Tryz.prog fn str hcs r) [.code body] (AS.start n0 hid args [])) (hb:fn.body=some body:=by rfl) (hok:Qp fn.ntmps str hcs body=true:=by kernel_rfl) (hlen:args.length≤fn.ntmps:=by exact Nat.le_of_ble_eq_true rfl):Fn Tryz.prog f args r:=Fn.intro he hf hb mixed n0 hid str hcs hok hlen hs h
set_option linter.defProp false in
def uo:=And.intro @xc <| And.intro @ub <| And.intro @xa <| And.intro @uq <| And.intro @xd <| And.intro @uc <| And.intro @re <| And.intro @ur <| And.intro @vK <| And.intro @oO <| And.intro @pM <| And.intro @vM <| And.intro @vf <| And.intro @vO <| And.intro @oP <| And.intro @vg <| And.intro @XO <| And.intro @oQ <| And.intro @mP <| And.intro @lG <| And.intro @mQ <| And.intro @lH <| And.intro @uS <| And.intro @pf <| And.intro @Qh <| And.intro @oR <| And.intro @mR <| And.intro @lI <| And.intro @mS <| And.intro @lJ <| And.intro @uT <| And.intro @pg <| And.intro @ir <| And.intro @oS <| And.intro @lK <| And.intro @lM <| And.intro @mT <| And.intro @lN <| And.intro @mU <| And.intro @lO <| And.intro @mV <| And.intro @lP <| And.intro @mW <| And.intro @lQ <| And.intro @lS <| And.intro @lU <| And.intro @lV <| And.intro @lX <| And.intro @uU <| And.intro @ph <| And.intro @vk <| And.intro @N9 <| And.intro @oT <| And.intro @mX <| And.intro @lY <| And.intro @mY <| And.intro @lZ <| And.intro @uV <| And.intro @pi <| And.intro @Kc <| And.intro @oU <| And.intro @mZ <| And.intro @m7 <| And.intro @nc <| And.intro @m8 <| And.intro @uW <| And.intro @pj <| And.intro @vP <| And.intro @oV <| And.intro @nd <| And.intro @nh <| And.intro @m9 <| And.intro @nk <| And.intro @ma <| And.intro @nl <| And.intro @mb <| And.intro @nm <| And.intro @mc <| And.intro @nn <| And.intro @md <| And.intro @np <| And.intro @nq <| And.intro @uX <| And.intro @pk <| And.intro @VV <| And.intro @oW <| And.intro @ns <| And.intro @me <| And.intro @nt <| And.intro @mf <| And.intro @nu <| And.intro @uY <| And.intro @pm <| And.intro @vQ <| And.intro @oX <| And.intro @vn <| And.intro @po <| And.intro @vR <| And.intro @oY <| And.intro @vo <| And.intro @pq <| And.intro @vS <| And.intro @oZ <| And.intro @nv <| And.intro @mg <| And.intro @nw <| And.intro @mh <| And.intro @uZ <| And.intro @pr <| And.intro @ip <| And.intro @jS <| And.intro @gP <| And.intro @fj <| And.intro @gQ <| And.intro @fl <| And.intro @r7 <| And.intro @kB <| And.intro @rY <| And.intro @jT <| And.intro @rr <| And.intro @fm <| And.intro @fo <| And.intro @r8 <| And.intro @qU <| And.intro @kC <| And.intro @rs <| And.intro @rt <| And.intro @rR <| And.intro @rZ <| And.intro @ru <| And.intro @rS <| And.intro @ry <| And.intro @iq <| And.intro @jU <| And.intro @rz <| And.intro @fp <| And.intro @fq <| And.intro @ft <| And.intro @r9 <| And.intro @qV <| And.intro @kD <| And.intro @s8 <| And.intro @gR <| And.intro @fu <| And.intro @gS <| And.intro @rc <| @kE
set_option linter.defProp false in
def wA:=And.intro @wu <| And.intro @wt <| And.intro @ws <| And.intro @beq_self_eq_true.{0} <| And.intro @ite_true.{1} <| And.intro @ite_false.{1} <| And.intro @false_implies <| And.intro @true_implies <| And.intro @implies_true.{1} <| And.intro @implies_true.{0} <| And.intro @eq_self.{1} <| And.intro @ne_eq.{1} <| @uo
theorem Xj {X:Env} {k:List Item} {s:AS} (h:Qv (Bb s) fun s=>vc X 1000 k s):Run X k s:=Je 1000 h
theorem Kq {m:Nat} {s s':AS} (h3:Xf s.sl s'.sl) (h5:s.h=s'.h) (h1:s'.n0=s.n0:=by rfl) (h4:Xm s.tm s'.tm:=by simp [Xm]):Sub m s s':=Xg h1 h3 h4 h5
theorem uz {b m:Nat} {s s':AS} (h3:Xf s.sl s'.sl) (h5:s.h.take m=s'.h) (h6:∀ a∈s'.sl,Ko m a) (h8:∀ o∈s'.h,XT m o) (h7:∀ p∈s'.tm,Ko m p.2:=by simp [XA]) (h4:Xm s.tm s'.tm:=by simp [Xm]) (h1:s'.n0=s.n0:=by rfl) (hbm:b≤m:=by exact Nat.zero_le _):Sub b s s':=XD hbm h1 h3 h4 h5 h6 h7 h8
end Go.Ab.N
namespace Go.Ab.N
open Go Go.RowKit Go.Proofs
noncomputable section
set_option maxRecDepth 10000
set_option maxHeartbeats 2000000
open Classical
def iO (neg:Bool) (l:List Int):AV:=.agg [.bool (neg && decide (Zz l l.length≠0)),X4 (l.take (Zz l l.length))]
theorem JR (neg:Bool) (l:List Int):Settled (iO neg l):=Qo (by simp [X6,X2])
theorem vV (neg:Bool) (d:List Int) (hl:d.length<4611686018427387904):Fn Tryz.prog 208 [.bool neg,X4 d] (iO neg d):=by
 refine Fq Tryz.call208 Tryz.func208 6 [] [] [] (by simp [X6,X9,JP,Jf,X2,JQ,XC,JR,Jl]) (Xj ?_); simp (maxSteps:=999999) only [AS.start,↓X1,wA,seval,zA,wN]
 refine Xd (fun n:Nat=>⟨6,[],[.bool neg,X4 d,.any,.any,.ref 0 0 0,I n],[],[.row 0 2 (Xk [.bool false,.sl 0 0 (fun _=>.any) true])]⟩) (fun n=>n≤d.length∧Zz d d.length=Zz d n) (fun n=>n) d.length ⟨by omega,rfl⟩
  (Kq (by simp [zA,wN,Xf,X4,BP,Zo,Qn,I]) rfl) ?_
 rintro n ⟨hn,ht⟩ next
 cases n with
 | zero =>
  refine Xj ?_
  simp only [Int.lt_irrefl,↓X1,wA,seval,zA,wN]
  refine FQ (v:=.agg [.bool false,.sl 0 0 (fun _=>.any) false]) rfl (by simp [AS.get,JK,XO,rd,Qz,Xk,BT]) ?_
  have e:iO neg d=.agg [.bool false,X4 []]:=by unfold iO; rw [ht]; simp [Zz]
  rw [e]
  exact BW ⟨QE (X2 _) rfl,XK (X6 _) (Qi _ _),trivial⟩
 | succ n =>
  have e0:(0<((n+1:Nat):Int))=True:=eq_true (by omega)
  have e1:(((n+1:Nat):Int)=0)=False:=eq_false (by omega)
  have w1:IntKind.i64.wrap (((n+1:Nat):Int) - 1)=(n:Int):=by rw [IntKind.wrap_i64]; omega
  have e2:(n<d.length)=True:=eq_true (by omega)
  refine Xj ?_
  simp only [e0,e1,e2,w1,↓X1,wA,seval,zA,wN]
  refine ⟨fun h0=>next n _ ⟨by omega,by rw [ht]; simp only [Zz]; rw [if_pos h0]⟩ (by omega) (Kq (by simp [zA,wN,Xf,X4,BP,Zo,Qn,I]) rfl),fun h0=>⟨by omega,?_⟩⟩
  have ht2:Zz d d.length=n+1:=by rw [ht]; simp only [Zz]; rw [if_neg h0]
  have e:iO neg d=.agg [.bool neg,X4 (d.take (n+1))]:=by unfold iO; rw [ht2]; simp
  have hlen:(d.take (n+1)).length=n+1:=by rw [List.length_take]; omega
  rw [e]
  refine FQ (v:=.agg [.bool neg,.sl (n+1) (n+1) (fun j=>.int .i64 (d.getD j 0)) false]) rfl ?_ ?_
  ·have m1:min (n+1) d.length=n+1:=by omega
   simp [AS.get,JK,XO,rd,Qz,Xk,BT,m1]
  ·refine BW ⟨QE (X2 _) rfl,XK (X6 _) (G7 _ hlen.symm (by omega) fun j hj=>?_),trivial⟩
   rw [hlen] at hj
   rw [AA d 0 j (n+1) hj]; rfl
set_option linter.defProp false in
def JY:=And.intro @X6 (And.intro @X9 (And.intro @JP (And.intro @Jf (And.intro @X2 (And.intro @JQ (And.intro @XC (And.intro @JR @Jl)))))))
theorem kA (neg:Bool) {u:Int} (h:0≤u):zA (Kn neg u)=.agg [.bool (neg && decide (u≠0)),X4 (X8 u.toNat)]:=by
 unfold zA
 have e1:(Kn neg u).natAbs=u.toNat:=by unfold Kn; split <;> omega
 rw [e1]
 congr 3
 unfold Kn
 have h0':¬ u<0:=by omega
 cases neg
 ·simp [h0']
 ·have:-u<0↔¬ u=0:=by omega
  simp only [if_true,Bool.true_and,decide_eq_decide,ne_eq]
  exact this
def U (n:Int):AV:=.int .u64 n
theorem KI (neg:Bool) (u:Int) (h0:0≤u) (h1:u<18446744073709551616):Fn Tryz.prog 207 [.bool neg,.int .u64 u] (zA (Kn neg u)):=by
 obtain ⟨R,hR⟩:∃ R,R=zA (Kn neg u):=⟨_,rfl⟩
 have eR:=hR.trans (kA neg h0)
 have sR:Settled R:=hR▸XC _
 have b1:u≠0→(neg && decide (u≠0))=neg:=fun h=>by simp [h]
 have w1:IntKind.i64.wrap (u.tmod 1000000000)=u % 1000000000:=by rw [IntKind.wrap_i64,Int.tmod_eq_emod_of_nonneg h0]; omega
 have w2:IntKind.u64.wrap (u.tdiv 1000000000)=u / 1000000000:=by rw [IntKind.wrap_u64,Int.tdiv_eq_ediv_of_nonneg h0]; omega
 have h2:0≤u / 1000000000:=by omega
 have w3:IntKind.i64.wrap (u / 1000000000)=u / 1000000000:=by rw [IntKind.wrap_i64]; omega
 have w4:IntKind.i64.wrap ((u / 1000000000).tmod 1000000000)=u / 1000000000 % 1000000000:=by rw [IntKind.wrap_i64,Int.tmod_eq_emod_of_nonneg h2]; omega
 have w5:IntKind.u64.wrap ((u / 1000000000).tdiv 1000000000)=u / 1000000000 / 1000000000:=by rw [IntKind.wrap_u64,Int.tdiv_eq_ediv_of_nonneg h2]; omega
 have w6:IntKind.i64.wrap (u / 1000000000 / 1000000000)=u / 1000000000 / 1000000000:=by rw [IntKind.wrap_i64]; omega
 rw [← hR]
 refine Fq Tryz.call207 Tryz.func207 6 [] [] [] (by simp [JY]) (Xj ?_); simp (maxSteps:=999999) only [AS.start,↓X1,wA,↓reduceIte,reduceIte,reduceCtorEq,Y1,Y2,Y3,Y4,Y5,Y6,Y7,Y8,Y9,YA,zA,wN]
 simp only [w1,w2,w3,w4,w5,w6]
 refine ⟨fun a=>?_,fun a0=>⟨fun a1=>?_,fun a1=>⟨fun a2=>⟨by omega,by omega,?_⟩,fun a2=>⟨by omega,by omega,by omega,by omega,by omega,?_⟩⟩⟩⟩
 ·rw [a,show (neg && decide ((0:Int)≠0))=false by simp,show (0:Int).toNat=0 from rfl,XV] at eR
  exact Q9 rfl XO rfl rfl rfl eR sR ⟨Weak.rfl' _,Qi _ _,trivial⟩
 ·have w0:IntKind.i64.wrap u=u:=by rw [IntKind.wrap_i64]; omega
  rw [b1 a0,IE (by omega) (by omega),Int.toNat_of_nonneg h0] at eR
  rw [w0]
  exact Q9 rfl XO rfl rfl rfl eR sR ⟨Weak.rfl' _,Zk rfl rfl,trivial⟩
 ·rw [b1 a0,PN (by omega) (by omega)] at eR
  have e1:((u.toNat % 1000000000:Nat):Int)=u % 1000000000:=by omega
  have e2:((u.toNat / 1000000000:Nat):Int)=u / 1000000000:=by omega
  rw [e1,e2] at eR
  exact Q9 rfl XO rfl rfl rfl eR sR ⟨Weak.rfl' _,Zk rfl rfl,trivial⟩
 ·rw [b1 a0,TW (by omega) (by omega)] at eR
  have e1:((u.toNat % 1000000000:Nat):Int)=u % 1000000000:=by omega
  have e2:((u.toNat / 1000000000 % 1000000000:Nat):Int)=u / 1000000000 % 1000000000:=by omega
  have e3:((u.toNat / 1000000000 / 1000000000:Nat):Int)=u / 1000000000 / 1000000000:=by omega
  rw [e1,e2,e3] at eR
  exact Q9 rfl XO rfl rfl rfl eR sR ⟨Weak.rfl' _,Zk rfl rfl,trivial⟩
theorem Ov (z:Int):Fn Tryz.prog 196 [zA z] (zA (-z)):=by
 have e:(-z).natAbs=z.natAbs:=by omega
 have e0:z.natAbs=0↔z=0:=by omega
 have e1:(X8 z.natAbs).length=0↔z=0:=digs_len_zero.trans e0
 refine Fq Tryz.call196 Tryz.func196 3 [] [] [] (by simp [JY]) (Xj ?_); simp (maxSteps:=999999) only [AS.start,↓X1,wA,↓reduceIte,reduceIte,reduceCtorEq,Y1,Y2,Y3,Y4,Y5,Y6,Y7,Y8,Y9,YA,zA,wN]
 refine ⟨fun h=>Q9 rfl XO rfl rfl rfl rfl (XC _) ?_,fun h=>Q9 rfl XO rfl rfl rfl rfl (XC _) ?_⟩
 ·rw [e]
  have:decide (-z<0)=decide (0<((X8 z.natAbs).length:Int)):=by rw [decide_eq_decide]; omega
  rw [this]
  exact ⟨Weak.rfl' _,Weak.rfl' _,trivial⟩
 ·rw [e,show decide (-z<0)=false from decide_eq_false (by omega)]
  exact ⟨Weak.rfl' _,Weak.rfl' _,trivial⟩
theorem oF (z:Int):Fn Tryz.prog 155 [zA z] (I z.sign):=by
 have e0:z.natAbs=0↔z=0:=by omega
 have e1:(X8 z.natAbs).length=0↔z=0:=digs_len_zero.trans e0
 refine Fq Tryz.call155 Tryz.func155 4 [] [] [] (by simp [JY]) (Xj ?_); simp (maxSteps:=999999) only [AS.start,↓X1,wA,↓reduceIte,reduceIte,reduceCtorEq,Y1,Y2,Y3,Y4,Y5,Y6,Y7,Y8,Y9,YA,zA,wN]
 refine ⟨fun h=>Xv rfl rfl (X9 _) ?_,fun h=>⟨fun h2=>Xv rfl rfl (X9 _) ?_,fun h2=>Xv rfl rfl (X9 _) ?_⟩⟩
 ·rw [Int.sign_eq_neg_one_of_neg h]; rfl
 ·rw [e1.1 (by omega)]; rfl
 ·rw [Int.sign_eq_one_of_pos (by omega)]; rfl
theorem OW (d:List Int) (h:Jh d):Fn Tryz.prog 226 [X4 d] (.tup [I (if d.length≤2 then val d else 0),.bool (decide (d.length≤2))]):=by
 have k2:¬ d.length≤2→I 0=I (if d.length≤2 then val d else 0)∧AV.bool false=.bool (decide (d.length≤2)):=fun h=>by simp [h]
 have k1:d.length≤2→∀ x,x=val d→I x=I (if d.length≤2 then val d else 0)∧AV.bool true=.bool (decide (d.length≤2)):=fun h x hx=>by simp [h,hx]
 refine Fq Tryz.call226 Tryz.func226 4 [5] [] [] (by simp [JY]) (Xj ?_); simp (maxSteps:=999999) only [AS.start,↓X1,wA,↓reduceIte,reduceIte,reduceCtorEq,Y1,Y2,Y3,Y4,Y5,Y6,Y7,Y8,Y9,YA,zA,wN]
 have fin:∀ {s:AS} {x:Int},s.get 2=I x→s.get 3=.bool true→d.length≤2→x=val d→RetOk (QS Tryz.prog Tryz.f226 [] [] (.tup [I (if d.length≤2 then val d else 0),.bool (decide (d.length≤2))])) s:=fun h1 h2 hl hx =>
  Sk rfl h1 h2 (X9 _) (X2 _) (k1 hl _ hx).1 (k1 hl _ hx).2
 refine ⟨fun a=>fin rfl rfl (by omega) ?_,fun a0=>⟨fun a=>⟨by omega,by omega,fin rfl rfl (by omega) ?_⟩,fun a1=>⟨fun a=>⟨⟨by omega,by omega⟩,by omega,by omega,by omega,fin rfl rfl (by omega) ?_⟩,fun a2=>Sk rfl rfl rfl (X9 _) (X2 _) (k2 (by omega)).1 (k2 (by omega)).2⟩⟩⟩
 ·obtain rfl:d=[]:=List.length_eq_zero_iff.1 (by omega)
  rfl
 ·obtain ⟨x,rfl⟩:=List.length_eq_one_iff.1 (show d.length=1 by omega)
  simp [val]
 ·obtain ⟨x,y,rfl⟩:∃ x y,d=[x,y]:=by
   match d,a with
   | [x,y],_=>exact ⟨x,y,rfl⟩
   | [],h=>exact absurd h (by simp)
   | [_],h=>exact absurd h (by simp)
   | _ :: _ :: _ :: _,h=>exact absurd h (by simp; omega)
  have h1:=h x (by simp)
  have h2:=h y (by simp)
  unfold XW at h1 h2
  simp only [List.getD_cons_zero,List.getD_cons_succ,val,IntKind.wrap_i64]
  omega
theorem Rw (a:Int):Fn Tryz.prog 267 [I a] (.bool false):=by
 refine Fq Tryz.call267 Tryz.func267 3 [] [] [] (by simp [JY]) (Xj ?_); simp (maxSteps:=999999) only [AS.start,↓X1,wA,↓reduceIte,reduceIte,reduceCtorEq,Y1,Y2,Y3,Y4,Y5,Y6,Y7,Y8,Y9,YA,zA,wN]
 exact Xv rfl rfl (X2 _) rfl
theorem Vu (a b:Int):Fn Tryz.prog 249 [I a,I b] (I (a - b).sign):=by
 refine Fq Tryz.call249 Tryz.func249 7 [] [] [] (by simp [JY]) (Xj ?_); simp (maxSteps:=999999) only [AS.start,↓X1,wA,↓reduceIte,reduceIte,reduceCtorEq,Y1,Y2,Y3,Y4,Y5,Y6,Y7,Y8,Y9,YA,zA,wN]
 refine X0 (Rw a) rfl ?_
 simp only [↓X1,wA,↓reduceIte,reduceIte,reduceCtorEq,Y1,Y2,Y3,Y4,Y5,Y6,Y7,Y8,Y9,YA,zA,wN]
 refine X0 (Rw b) rfl ?_
 simp only [↓X1,wA,↓reduceIte,reduceIte,reduceCtorEq,Y1,Y2,Y3,Y4,Y5,Y6,Y7,Y8,Y9,YA,zA,wN]
 refine ⟨fun h=>Xv rfl rfl (X9 _) ?_,fun h=>⟨fun h2=>Xv rfl rfl (X9 _) ?_,fun h2=>Xv rfl rfl (X9 _) ?_⟩⟩
 ·rw [Int.sign_eq_neg_one_of_neg (by omega)]; rfl
 ·rw [Int.sign_eq_one_of_pos (by omega)]; rfl
 ·rw [show a - b=0 by omega]; rfl
theorem fQ {a b:List Int} (ha:Jh a) (hb:Jh b) (hl:a.length=b.length) {i:Nat} (hi:i<a.length) (he:a.drop (i+1)=b.drop (i+1)) (hne:a.getD i 0≠b.getD i 0) :
  (val a - val b).sign=(a.getD i 0 - b.getD i 0).sign:=by
 rw [Jp a i (by omega),Jp b i (by omega),K8 a i hi,K8 b i (by omega),he]
 have h1:=XS (QC ha i)
 have h2:=XS (QC hb i)
 have h3:=KY (QC ha i)
 have h4:=KY (QC hb i)
 have e1:(a.take i).length=i:=by rw [List.length_take]; omega
 have e2:(b.take i).length=i:=by rw [List.length_take]; omega
 rw [e1] at h3
 rw [e2] at h4
 generalize val (a.take i)=p at *
 generalize val (b.take i)=q at *
 generalize val (b.drop (i+1))=r at *
 generalize a.getD i 0=x at *
 generalize b.getD i 0=y at *
 have hp:=JI i
 generalize pw i=P at *
 have e:p+P*(x+1000000000*r) - (q+P*(y+1000000000*r))=(p - q)+P*(x - y):=by grind
 rw [e]
 rcases Int.lt_or_gt_of_ne hne with h | h
 ·rw [Int.sign_eq_neg_one_of_neg (show x - y<0 by omega)]
  have:P*(x - y)≤P*(-1):=Int.mul_le_mul_of_nonneg_left (by omega) (by omega)
  exact Int.sign_eq_neg_one_of_neg (by omega)
 ·rw [Int.sign_eq_one_of_pos (show 0<x - y by omega)]
  have:P*1≤P*(x - y):=Int.mul_le_mul_of_nonneg_left (by omega) (by omega)
  exact Int.sign_eq_one_of_pos (by omega)
theorem CX {a b:List Int} (ha:Zq a) (hb:Zq b) (h:a.length<b.length):val a<val b:=by
 have h1:=KY ha.1
 have hne:b≠[]:=fun e=>by rw [e] at h; simp at h
 have h2:=BJ hb hne
 have h3:=Cn (show a.length≤b.length - 1 by omega)
 omega
theorem Fm {a b:List Int} (hl:a.length=b.length) {i:Nat} (hi:i<a.length) (he:a.drop (i+1)=b.drop (i+1)) (h:a.getD i 0=b.getD i 0):a.drop i=b.drop i:=by
 have hi2:i<b.length:=by omega
 rw [List.drop_eq_getElem_cons hi,List.drop_eq_getElem_cons hi2,he]
 rw [List.getD_eq_getElem?_getD,List.getElem?_eq_getElem hi,List.getD_eq_getElem?_getD,List.getElem?_eq_getElem hi2] at h
 simp only [Option.getD_some] at h
 rw [h]
theorem C8 (a b:List Int) (ha:Zq a) (hb:Zq b) (la:a.length<4611686018427387904):Fn Tryz.prog 215 [X4 a,X4 b] (I (val a - val b).sign):=by
 have hc:a.length≠b.length→Fn Tryz.prog 249 [I a.length,I b.length] (I (val a - val b).sign):=fun h=>by
  have e:((a.length:Int) - b.length).sign=(val a - val b).sign:=by
   rcases Nat.lt_or_gt_of_ne h with h' | h'
   ·have:=CX ha hb h'
    rw [Int.sign_eq_neg_one_of_neg (by omega),Int.sign_eq_neg_one_of_neg (by omega)]
   ·have:=CX hb ha h'
    rw [Int.sign_eq_one_of_pos (by omega),Int.sign_eq_one_of_pos (by omega)]
  rw [← e]; exact Vu _ _
 refine Fq Tryz.call215 Tryz.func215 6 [] [] [] (by simp [JY]) (Xj ?_); simp (maxSteps:=999999) only [AS.start,↓X1,wA,seval,zA,wN]
 refine ⟨fun h=>X0 (hc h) rfl ?_,fun hl=>?_⟩
 ·simp only [↓X1,wA,seval,zA,wN]
  exact Xv rfl rfl (X9 _) rfl
 refine Xd (fun k:Nat=>⟨6,[],[X4 a,X4 b,.any,.any,I 0,I ((k:Int) - 1)],[],[]⟩) (fun k=>k≤a.length∧a.drop k=b.drop k) (fun k=>k) a.length ⟨by omega,by rw [List.drop_length,hl,List.drop_length]⟩
  ?_ ?_
 ·have w0:IntKind.i64.wrap ((a.length:Int) - 1)=(a.length:Int) - 1:=by rw [IntKind.wrap_i64]; omega
  rw [w0]
  exact (Kq (by simp [zA,wN,Xf,X4,BP,Zo,Qn,I]) rfl)
 rintro k ⟨hk,he⟩ next
 cases k with
 | zero =>
  refine Xj ?_
  have e0:(0≤((0:Nat):Int) - 1)=False:=eq_false (by omega)
  have e1:((0:Int)≤0 - 1)=False:=eq_false (by omega)
  simp only [e0,e1,↓X1,wA,seval,zA,wN]
  refine Xv rfl rfl (X9 _) ?_
  rw [List.drop_zero,List.drop_zero] at he
  rw [he,Int.sub_self]; rfl
 | succ k =>
  have e1:((k+1:Nat):Int) - 1=(k:Int):=by omega
  have w1:IntKind.i64.wrap ((k:Int) - 1)=(k:Int) - 1:=by rw [IntKind.wrap_i64]; omega
  have e2:((k:Int)<a.length)=True:=eq_true (by omega)
  have e3:(k<a.length)=True:=eq_true (by omega)
  have e4:(k<b.length)=True:=eq_true (by omega)
  have hcm:a.getD k 0≠b.getD k 0→Fn Tryz.prog 249 [I (a.getD k 0),I (b.getD k 0)] (I (val a - val b).sign):=fun h=>by
   rw [fQ ha.1 hb.1 hl (by omega) he h]; exact Vu _ _
  refine Xj ?_
  simp only [e1,w1,e3,e4,↓X1,wA,seval,zA,wN]
  refine ⟨fun h=>X0 (hcm h) rfl ?_,fun h=>next k _ ⟨by omega,Fm hl (by omega) he h⟩ (by omega) (Kq (by simp [zA,wN,Xf,X4,BP,Zo,Qn,I]) rfl)⟩
  simp only [↓X1,wA,seval,zA,wN]
  exact Xv rfl rfl (X9 _) rfl
theorem ER (n:Int) (h:ZO n):Fn Tryz.prog 148 [I n] (zA n):=by
 obtain ⟨R,hR⟩:∃ R,R=zA n:=⟨_,rfl⟩
 have sR:Settled R:=hR▸XC _
 unfold ZO at h
 have c1:n<0→Fn Tryz.prog 207 [.bool (decide (n<0)),.int .u64 (IntKind.u64.wrap (0 - IntKind.u64.wrap n))] R:=fun h1=>by
  have e:IntKind.u64.wrap (0 - IntKind.u64.wrap n) = -n:=by rw [IntKind.wrap_u64,IntKind.wrap_u64]; omega
  have e2:Kn (decide (n<0)) (-n)=n:=by unfold Kn; rw [if_pos (decide_eq_true h1)]; omega
  have:=KI (decide (n<0)) (-n) (by omega) (by omega)
  rw [e2] at this
  rw [e,hR]; exact this
 have c2:¬ n<0→Fn Tryz.prog 207 [.bool (decide (n<0)),.int .u64 (IntKind.u64.wrap n)] R:=fun h1=>by
  have e:IntKind.u64.wrap n=n:=by rw [IntKind.wrap_u64]; omega
  have e2:Kn (decide (n<0)) n=n:=by unfold Kn; rw [if_neg (by simp; omega)]
  have:=KI (decide (n<0)) n (by omega) (by omega)
  rw [e2] at this
  rw [e,hR]; exact this
 rw [← hR]
 refine Fq Tryz.call148 Tryz.func148 4 [] [] [] (by simp [JY]) (Xj ?_); simp (maxSteps:=999999) only [AS.start,↓X1,wA,seval,zA,wN]
 refine ⟨fun h1=>X0 (c1 h1) rfl ?_,fun h1=>X0 (c2 h1) rfl ?_⟩
 ·simp only [hR,↓X1,wA,seval,zA,wN]
  exact Q9 rfl XO rfl rfl rfl hR sR ⟨Weak.rfl' _,Weak.rfl' _,trivial⟩
 ·simp only [hR,↓X1,wA,seval,zA,wN]
  exact Q9 rfl XO rfl rfl rfl hR sR ⟨Weak.rfl' _,Weak.rfl' _,trivial⟩
end
end Go.Ab.N
