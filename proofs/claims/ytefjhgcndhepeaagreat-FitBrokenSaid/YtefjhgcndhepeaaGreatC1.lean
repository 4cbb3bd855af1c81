/- Contracts of functions of these chapters, for every argument that fits, and what they need. -/
import Derived.Test.YtefjhgcndhepeaaGreatAb4
import Derived.Test.YtefjhgcndhepeaaGreatRows
import Derived.KernelRfl
set_option linter.unusedSimpArgs false
set_option linter.unusedVariables false
open Nat renaming reducePow → Y1, reduceLT → Y2, reduceLeDiff → Y3, reduceEqDiff → Y4, reduceAdd → Y5, reduceMul → Y6, reduceSub → Y7, reduceBEq → Y8, reduceDiv → Y9, reduceMod → YA
namespace Go.Ab.N
open Go.Ab
open Classical
noncomputable section
def pw:Nat→Int
 | 0=>1
 | n+1=>1000000000*pw n
theorem JE:∀ n,0<pw n
 | 0=>by simp [pw]
 | n+1=>by have:=JE n; simp only [pw]; omega
theorem Em (m n:Nat):pw (m+n)=pw m*pw n:=by
 induction m with
 | zero=>simp [pw]
 | succ m ih=>rw [show m+1+n=(m+n)+1 by omega]; simp only [pw]; rw [ih,Int.mul_assoc]
theorem C8 {m n:Nat} (h:m≤n):pw m≤pw n:=by
 obtain ⟨k,rfl⟩:=Nat.exists_eq_add_of_le h
 induction k with
 | zero=>exact Int.le_refl _
 | succ k ih =>
  have h1:=ih (by omega)
  have h2:=JE (m+k)
  rw [show m+(k+1)=(m+k)+1 by omega]
  simp only [pw]; omega
def val:List Int→Int
 | []=>0
 | d :: l=>d+1000000000*val l
def XS (d:Int):Prop:=0≤d∧d<1000000000
def Jb (l:List Int):Prop:=∀ d∈l,XS d
def Zp (l:List Int):Prop:=Jb l∧(l≠[]→l.getD (l.length - 1) 0≠0)
theorem AY:Jb []:=fun _ h=>by cases h
theorem Kx {d:Int} {l:List Int}:Jb (d :: l)↔XS d∧Jb l:=by unfold Jb; simp
theorem Hj {l m:List Int}:Jb (l ++ m)↔Jb l∧Jb m:=by
 unfold Jb
 constructor
 ·exact fun h=>⟨fun d hd=>h d (List.mem_append_left _ hd),fun d hd=>h d (List.mem_append_right _ hd)⟩
 ·rintro ⟨h1,h2⟩ d hd
  rcases List.mem_append.1 hd with h | h
  ·exact h1 d h
  ·exact h2 d h
theorem Jm {l:List Int} (h:Jb l) (i:Nat):XS (l.getD i 0):=by
 by_cases hi:i<l.length
 ·exact h _ (Js hi)
 ·rw [List.getD_eq_getElem?_getD,List.getElem?_eq_none (by omega)]; exact ⟨by simp,by simp⟩
theorem Qv {l:List Int} (h:Jb l) (n:Nat):Jb (l.take n):=fun d hd=>h d (List.mem_of_mem_take hd)
theorem M6 {l:List Int} (h:∀ i,i<l.length→XS (l.getD i 0)):Jb l:=by
 intro d hd
 obtain ⟨i,hi,rfl⟩:=List.getElem_of_mem hd
 have:=h i hi
 rwa [List.getD_eq_getElem?_getD,List.getElem?_eq_getElem hi] at this
theorem XO {l:List Int} (h:Jb l):0≤val l:=by
 induction l with
 | nil=>exact Int.le_refl 0
 | cons d l ih =>
  obtain ⟨h1,h2⟩:=Kx.1 h
  have:=ih h2
  simp only [val]; unfold XS at h1; omega
theorem KV {l:List Int} (h:Jb l):val l<pw l.length:=by
 induction l with
 | nil=>simp [val,pw]
 | cons d l ih =>
  obtain ⟨h1,h2⟩:=Kx.1 h
  have:=ih h2
  simp only [val,List.length_cons,pw]; unfold XS at h1; omega
theorem Oi (l m:List Int):val (l ++ m)=val l+pw l.length*val m:=by
 induction l with
 | nil=>simp [val,pw]
 | cons d l ih =>
  simp only [List.cons_append,val,List.length_cons,pw]
  rw [ih,Int.mul_add,Int.mul_assoc]; omega
theorem Dl (l:List Int) (x:Int):val (l ++ [x])=val l+pw l.length*x:=by
 rw [Oi]; simp [val]
theorem Ja (l:List Int) (i:Nat) (h:i<l.length):val (l.take (i+1))=val (l.take i)+pw i*l.getD i 0:=by
 rw [QB l 0 i h,Dl,List.length_take,Nat.min_eq_left (by omega)]
theorem DJ (n:Nat):val (List.replicate n 0)=0:=by
 induction n with
 | zero=>rfl
 | succ n ih=>simp [List.replicate_succ,val,ih]
theorem Bw {l:List Int} (h:Zp l) (hne:l≠[]):pw (l.length - 1)≤val l:=by
 have hl:=h.2 hne
 have hlen:0<l.length:=List.length_pos_iff.2 hne
 have e:=Ja l (l.length - 1) (by omega)
 rw [show l.length - 1+1=l.length by omega,List.take_length] at e
 have h1:=XO (Qv h.1 (l.length - 1))
 have h2:=Jm h.1 (l.length - 1)
 have h3:=JE (l.length - 1)
 have h4:pw (l.length - 1)*1≤pw (l.length - 1)*l.getD (l.length - 1) 0:=Int.mul_le_mul_of_nonneg_left (by unfold XS at h2; omega) (by omega)
 omega
theorem HC:∀ {a b:List Int},Jb a→Jb b→a.length=b.length→val a=val b→a=b
 | [],[],_,_,_,_=>rfl
 | [],_ :: _,_,_,h,_=>by simp at h
 | _ :: _,[],_,_,h,_=>by simp at h
 | x :: a,y :: b,ha,hb,hl,hv=>by
  obtain ⟨h1,h2⟩:=Kx.1 ha
  obtain ⟨h3,h4⟩:=Kx.1 hb
  simp only [val] at hv
  unfold XS at h1 h3
  have hxy:x=y:=by omega
  have hv':val a=val b:=by omega
  rw [hxy,HC h2 h4 (by simpa using hl) hv']
theorem WG {a b:List Int} (ha:Zp a) (hb:Zp b) (h:val a=val b):a=b:=by
 have key:∀ {a b:List Int},Zp a→Zp b→val a=val b→a.length≤b.length→a=b:=by
  intro a b ha hb h hl
  by_cases e:a.length=b.length
  ·exact HC ha.1 hb.1 e h
  ·exfalso
   have hne:b≠[]:=fun e'=>by
    have:b.length=0:=by rw [e']; rfl
    omega
   have h1:=Bw hb hne
   have h2:=KV ha.1
   have h3:=C8 (show a.length≤b.length - 1 by omega)
   omega
 rcases Nat.le_total a.length b.length with hl | hl
 ·exact key ha hb h hl
 ·exact (key hb ha h.symm hl).symm
def X6 (n:Nat):List Int:=if h:n=0 then [] else ((n % 1000000000:Nat):Int) :: X6 (n / 1000000000)
termination_by n
decreasing_by omega
theorem Q0:X6 0=[]:=by rw [X6]; simp
theorem A1 {n:Nat} (h:n≠0):X6 n=((n % 1000000000:Nat):Int) :: X6 (n / 1000000000):=by rw [X6]; simp [h]
theorem Xv (n:Nat):val (X6 n)=n:=by
 induction n using Nat.strongRecOn with
 | ind n ih =>
  by_cases h:n=0
  ·subst h; rw [Q0]; rfl
  ·rw [A1 h]
   simp only [val]
   rw [ih (n / 1000000000) (by omega)]; omega
theorem XB (n:Nat):Jb (X6 n):=by
 induction n using Nat.strongRecOn with
 | ind n ih =>
  by_cases h:n=0
  ·subst h; rw [Q0]; exact AY
  ·rw [A1 h]
   exact Kx.2 ⟨⟨by omega,by omega⟩,ih _ (by omega)⟩
theorem Hk {n:Nat} (h:n≠0):X6 n≠[]:=by rw [A1 h]; simp
theorem NG {n:Nat}:X6 n=[]↔n=0:=⟨fun h=>Classical.byContradiction fun e=>Hk e h,fun h=>by rw [h]; exact Q0⟩
theorem XG (n:Nat):Zp (X6 n):=by
 refine ⟨XB n,?_⟩
 induction n using Nat.strongRecOn with
 | ind n ih =>
  intro hne
  by_cases h:n=0
  ·subst h; exact absurd Q0 hne
  ·rw [A1 h]
   by_cases h2:n / 1000000000=0
   ·rw [h2,Q0]; simp; omega
   ·have hn:=Hk h2
    have:=ih (n / 1000000000) (by omega) hn
    obtain ⟨k,hk⟩:∃ k,(X6 (n / 1000000000)).length=k+1:=⟨(X6 (n / 1000000000)).length - 1,by have:=List.length_pos_iff.2 hn; omega⟩
    simp only [List.length_cons,hk,Nat.add_sub_cancel] at this ⊢
    simpa using this
theorem ZU {l:List Int} (h:Zp l):X6 (val l).toNat=l:=by
 refine WG (XG _) h ?_
 rw [Xv]
 have:=XO h.1
 omega
theorem nl {l:List Int} (h:Jb l):((val l).toNat:Int)=val l:=Int.toNat_of_nonneg (XO h)
def Zu (l:List Int):Nat→Nat
 | 0=>0
 | n+1=>if l.getD n 0=0 then Zu l n else n+1
theorem VM (l:List Int):∀ n,Zu l n≤n
 | 0=>Nat.le_refl _
 | n+1=>by
  simp only [Zu]
  split
  ·exact Nat.le_succ_of_le (VM l n)
  ·exact Nat.le_refl _
theorem S4 {l:List Int}:∀ n,n≤l.length→val (l.take (Zu l n))=val (l.take n)
 | 0,_=>rfl
 | n+1,h=>by
  simp only [Zu]
  split
  ·rename_i e
   rw [S4 n (by omega),Ja l n h,e]; simp
  ·rfl
theorem Uc {l:List Int} (h:Jb l) (n:Nat) (hn:n≤l.length):Zp (l.take (Zu l n)):=by
 refine ⟨Qv h _,fun hne=>?_⟩
 induction n with
 | zero=>simp [Zu] at hne
 | succ n ih =>
  simp only [Zu] at hne ⊢
  split
  ·rename_i e; rw [if_pos e] at hne; exact ih (by omega) hne
  ·rename_i e
   rw [List.length_take,Nat.min_eq_left hn,Nat.add_sub_cancel,As l 0 n (n+1) (by omega)]
   exact e
theorem aH {l:List Int} (h:Jb l):l.take (Zu l l.length)=X6 (val l).toNat:=by
 have h1:=Uc h l.length (Nat.le_refl _)
 rw [← ZU h1,S4 _ (Nat.le_refl _),List.take_length]
def sm (f:Nat→Int):Nat→Int
 | 0=>0
 | n+1=>sm f n+pw n*f n
def ZY (f:Nat→Int) (n:Nat):List Int:=(List.range n).map f
theorem Q1 (f:Nat→Int) (n:Nat):(ZY f n).length=n:=by simp [ZY]
theorem Dj (f:Nat→Int) (n:Nat):ZY f (n+1)=ZY f n ++ [f n]:=by simp [ZY,List.range_succ]
theorem Bp (f:Nat→Int) (n i:Nat) (h:i<n):(ZY f n).getD i 0=f i:=by simp [ZY,List.getD_eq_getElem?_getD,h]
theorem Km {f f':Nat→Int} {n:Nat} (h:∀ k,k<n→f k=f' k):ZY f n=ZY f' n:=List.map_congr_left fun k hk=>h k (by simpa using hk)
theorem FA (f:Nat→Int):∀ n,val (ZY f n)=sm f n
 | 0=>rfl
 | n+1=>by rw [Dj,Dl,Q1,FA f n]; rfl
theorem VF (l:List Int):∀ n,n≤l.length→sm (fun i=>l.getD i 0) n=val (l.take n)
 | 0,_=>rfl
 | n+1,h=>by rw [Ja l n h,← VF l n (by omega)]; rfl
theorem rZ (l:List Int) (n:Nat) (h:l.length≤n):sm (fun i=>l.getD i 0) n=val l:=by
 obtain ⟨k,rfl⟩:=Nat.exists_eq_add_of_le h
 induction k with
 | zero=>rw [Nat.add_zero,VF l _ (Nat.le_refl _),List.take_length]
 | succ k ih =>
  rw [show l.length+(k+1)=(l.length+k)+1 by omega]
  simp only [sm]
  rw [ih (by omega)]
  have:l.getD (l.length+k) 0=0:=by rw [List.getD_eq_getElem?_getD,List.getElem?_eq_none (by omega)]; rfl
  rw [this]; simp
theorem BV {f:Nat→Int} {n:Nat} (h:∀ i,i<n→XS (f i)):Jb (ZY f n):=by
 refine M6 fun i hi=>?_
 rw [Q1] at hi
 rw [Bp _ _ _ hi]; exact h i hi
def Q7 (a b:Nat→Int):Nat→Int
 | 0=>0
 | i+1=>if 1000000000≤a i+b i+Q7 a b i then 1 else 0
def ZG (a b:Nat→Int) (i:Nat):Int:=if 1000000000≤a i+b i+Q7 a b i then a i+b i+Q7 a b i - 1000000000 else a i+b i+Q7 a b i
theorem CA (a b:Nat→Int):∀ i,Q7 a b i=0∨Q7 a b i=1
 | 0=>.inl rfl
 | i+1=>by simp only [Q7]; split <;> simp
theorem Ow {a b:Nat→Int} {i:Nat} (ha:XS (a i)) (hb:XS (b i)):XS (ZG a b i):=by
 have:=CA a b i
 unfold XS at *
 unfold ZG
 split <;> omega
theorem Nf (a b:Nat→Int):∀ n,sm (ZG a b) n+pw n*Q7 a b n=sm a n+sm b n
 | 0=>by simp [sm,Q7]
 | n+1=>by
  have ih:=Nf a b n
  have e:ZG a b n+1000000000*Q7 a b (n+1)=a n+b n+Q7 a b n:=by
   simp only [ZG,Q7]
   split <;> omega
  simp only [sm,pw]
  have:pw n*(ZG a b n+1000000000*Q7 a b (n+1))=pw n*(a n+b n+Q7 a b n):=by rw [e]
  grind
def Jz (a b:Nat→Int):Nat→Int
 | 0=>0
 | i+1=>if a i - b i - Jz a b i<0 then 1 else 0
def Aj (a b:Nat→Int) (i:Nat):Int:=if a i - b i - Jz a b i<0 then a i - b i - Jz a b i+1000000000 else a i - b i - Jz a b i
theorem Ft (a b:Nat→Int):∀ i,Jz a b i=0∨Jz a b i=1
 | 0=>.inl rfl
 | i+1=>by simp only [Jz]; split <;> simp
theorem RV {a b:Nat→Int} {i:Nat} (ha:XS (a i)) (hb:XS (b i)):XS (Aj a b i):=by
 have:=Ft a b i
 unfold XS at *
 unfold Aj
 split <;> omega
theorem Od (a b:Nat→Int):∀ n,sm (Aj a b) n - pw n*Jz a b n=sm a n - sm b n
 | 0=>by simp [sm,Jz]
 | n+1=>by
  have ih:=Od a b n
  have e:Aj a b n - 1000000000*Jz a b (n+1)=a n - b n - Jz a b n:=by
   simp only [Aj,Jz]
   split <;> omega
  simp only [sm,pw]
  have:pw n*(Aj a b n - 1000000000*Jz a b (n+1))=pw n*(a n - b n - Jz a b n):=by rw [e]
  grind
theorem oE {f:Nat→Int}:∀ {n:Nat},(∀ i,i<n→XS (f i))→0≤sm f n∧sm f n<pw n
 | 0,_=>by simp [sm,pw]
 | n+1,h=>by
  obtain ⟨h1,h2⟩:=oE (n:=n) fun i hi=>h i (by omega)
  have h3:=h n (by omega)
  have h4:=JE n
  unfold XS at h3
  have h5:pw n*f n≤pw n*999999999:=Int.mul_le_mul_of_nonneg_left (by omega) (by omega)
  have h6:0≤pw n*f n:=Int.mul_nonneg (by omega) h3.1
  simp only [sm,pw]; omega
theorem VH {a b:Nat→Int} {n:Nat} (ha:∀ i,i<n→XS (a i)) (hb:∀ i,i<n→XS (b i)) (h:sm b n≤sm a n):Jz a b n=0:=by
 have h1:=Od a b n
 have h2:=(oE (f:=Aj a b) (n:=n) fun i hi=>RV (ha i hi) (hb i hi)).2
 rcases Ft a b n with e | e
 ·exact e
 ·rw [e] at h1; omega
theorem Ql (l:List Int) (i j:Nat) (x:Int) (hi:i<l.length):(l.set i x).getD j 0=if j=i then x else l.getD j 0:=by
 simp only [List.getD_eq_getElem?_getD,List.getElem?_set]
 by_cases h:i=j
 ·subst h; simp [hi]
 ·simp [h,Ne.symm h]
theorem Bi:∀ (l:List Int) (i:Nat) (x:Int),i<l.length→val (l.set i x)=val l+pw i*(x - l.getD i 0)
 | [],_,_,h=>by simp at h
 | d :: l,0,x,_=>by simp [val,pw]; omega
 | d :: l,i+1,x,h=>by
  have ih:=Bi l i x (by simpa using h)
  simp only [List.set_cons_succ,val,pw,List.getD_cons_succ]
  rw [ih,Int.mul_add,Int.mul_assoc]; omega
theorem Ds {l:List Int} (h:Jb l) (i:Nat) {x:Int} (hx:XS x):Jb (l.set i x):=fun d hd=>by
 rcases List.mem_or_eq_of_mem_set hd with e | e
 ·exact h d e
 ·rw [e]; exact hx
theorem AA {x y:Int} (hx:XS x) (hy:XS y):0≤x*y∧x*y≤999999998000000001:=by
 unfold XS at hx hy
 have h1:0≤x*y:=Int.mul_nonneg hx.1 hy.1
 have h2:x*y≤999999999*y:=Int.mul_le_mul_of_nonneg_right (by omega) hy.1
 omega
theorem K4 (l:List Int) (i:Nat) (h:i<l.length):val (l.drop i)=l.getD i 0+1000000000*val (l.drop (i+1)):=by
 rw [List.drop_eq_getElem_cons h]
 simp only [val]
 rw [List.getD_eq_getElem?_getD,List.getElem?_eq_getElem h]; rfl
theorem Jl (l:List Int) (i:Nat) (h:i≤l.length):val l=val (l.take i)+pw i*val (l.drop i):=by
 conv=>lhs; rw [← List.take_append_drop i l]
 rw [Oi,List.length_take,Nat.min_eq_left h]
def Kc (a:Nat→Int) (k:Int):Nat→Int
 | 0=>0
 | i+1=>(a i*k+Kc a k i) / 1000000000
def Ej (a:Nat→Int) (k:Int) (i:Nat):Int:=(a i*k+Kc a k i) % 1000000000
theorem BD {a:Nat→Int} {k:Int} (ha:∀ i,XS (a i)) (hk:XS k):∀ i,XS (Kc a k i)
 | 0=>⟨by simp [Kc],by simp [Kc]⟩
 | i+1=>by
  have h1:=BD ha hk i
  have h2:=AA (ha i) hk
  simp only [Kc]; unfold XS at *; omega
theorem gn {a:Nat→Int} {k:Int} (ha:∀ i,XS (a i)) (hk:XS k) (i:Nat):XS (Ej a k i):=by
 unfold Ej XS; omega
theorem Vb (a:Nat→Int) (k:Int):∀ n,sm (Ej a k) n+pw n*Kc a k n=sm a n*k
 | 0=>by simp [sm,Kc]
 | n+1=>by
  have ih:=Vb a k n
  have e:Ej a k n+1000000000*Kc a k (n+1)=a n*k+Kc a k n:=by
   simp only [Ej,Kc]; omega
  have e2:pw n*(Ej a k n+1000000000*Kc a k (n+1))=pw n*(a n*k+Kc a k n):=by rw [e]
  simp only [sm,pw]
  grind
def JK (a:List Int) (b:Int) (i:Nat):Int:=val (a.drop i) % b
def Zt (a:List Int) (b:Int) (i:Nat):Int:=(JK a b (i+1)*1000000000+a.getD i 0) / b
theorem G4 (a:List Int) (b:Int) (i:Nat) (h:i<a.length):JK a b i=(JK a b (i+1)*1000000000+a.getD i 0) % b:=by
 unfold JK
 rw [K4 a i h]
 rw [Int.add_comm,Int.mul_comm,Int.add_emod,Int.mul_emod]
 conv=>rhs; rw [Int.add_emod,Int.mul_emod,Int.emod_emod_of_dvd _ (Int.dvd_refl b)]
theorem IG (a:List Int) (b:Int):JK a b a.length=0:=by unfold JK; simp [val]
theorem D7 {a:List Int} {b:Int} (ha:Jb a) (hb:0<b) (i:Nat):XS (Zt a b i):=by
 have h1:=Int.emod_nonneg (val (a.drop (i+1))) (show b≠0 by omega)
 have h2:=Int.emod_lt_of_pos (val (a.drop (i+1))) hb
 have h3:=Jm ha i
 unfold XS at *
 unfold Zt JK
 refine ⟨Int.ediv_nonneg (by omega) (by omega),Int.ediv_lt_of_lt_mul hb ?_⟩
 omega
theorem Vu {a:List Int} {b:Int} (hb:0<b):∀ i,i≤a.length→val (a.drop (a.length - i))=b*val ((ZY (Zt a b) a.length).drop (a.length - i))+JK a b (a.length - i)
 | 0,_=>by
  have e:(ZY (Zt a b) a.length).drop a.length=[]:=by rw [List.drop_eq_nil_iff,Q1]; exact Nat.le_refl _
  simp [e,IG,val]
 | i+1,h=>by
  have ih:=Vu (a:=a) hb i (by omega)
  obtain ⟨k,hk⟩:∃ k,a.length - (i+1)=k:=⟨_,rfl⟩
  have hk1:a.length - i=k+1:=by omega
  rw [hk1] at ih
  rw [hk]
  rw [K4 a k (by omega),K4 (ZY (Zt a b) a.length) k (by rw [Q1]; omega),Bp _ _ _ (show k<a.length by omega)]
  have e:=Int.mul_ediv_add_emod (JK a b (k+1)*1000000000+a.getD k 0) b
  have e2:=G4 a b k (by omega)
  have e3:Zt a b k=(JK a b (k+1)*1000000000+a.getD k 0) / b:=rfl
  rw [← e3,← e2] at e
  grind
theorem O0 {a:List Int} {b:Int} (hb:0<b):val a=b*val (ZY (Zt a b) a.length)+JK a b 0:=by
 have:=Vu (a:=a) hb a.length (Nat.le_refl _)
 simpa using this
def zA (z:Int):AV:=.agg [.bool (decide (z<0)),X3 (X6 z.natAbs)]
theorem Xy (z:Int):Settled (zA z):=Qh (by simp [X8,X2])
theorem ou:(!(true == false))=true:=Go.Ab.nrfl rfl
theorem ot:(!(false == true))=true:=Go.Ab.nrfl rfl
theorem ov:(!(true == true))=false:=Go.Ab.nrfl rfl
theorem oq:(!(false == false))=false:=Go.Ab.nrfl rfl
set_option linter.defProp false in
def wN:=And.intro ou (And.intro ot (And.intro ov oq))
def Ki (neg:Bool) (v:Int):Int:=if neg=true then -v else v
theorem digs_len_zero {n:Nat}:(X6 n).length=0↔n=0:=by rw [List.length_eq_zero_iff,NG]
theorem ow {l:List Int} (h:Jb l) (neg:Bool):zA (Ki neg (val l))=.agg [.bool (neg && decide (Zu l l.length≠0)),X3 (l.take (Zu l l.length))]:=by
 have h0:=XO h
 have e1:(Ki neg (val l)).natAbs=(val l).toNat:=by unfold Ki; split <;> omega
 have e2:=aH h
 have hle:=VM l l.length
 have e3:Zu l l.length=0↔val l=0:=by
  have h1:(l.take (Zu l l.length)).length=Zu l l.length:=by rw [List.length_take,Nat.min_eq_left hle]
  rw [← h1,e2,digs_len_zero]; omega
 unfold zA
 rw [e1,e2]
 congr 3
 unfold Ki
 have h0':¬ val l<0:=by omega
 cases neg
 ·simp [h0']
 ·have:-val l<0↔¬ Zu l l.length=0:=by rw [e3]; omega
  simp only [if_true,Bool.true_and,decide_eq_decide]
  exact this
theorem I7 {d:Nat} (h0:d≠0) (h:d<1000000000):X6 d=[(d:Int)]:=by
 rw [A1 h0,show d / 1000000000=0 by omega,Q0,show d % 1000000000=d by omega]
theorem P5 {d:Nat} (h0:1000000000≤d) (h:d<1000000000000000000):X6 d=[((d % 1000000000:Nat):Int),((d / 1000000000:Nat):Int)]:=by
 rw [A1 (by omega),I7 (by omega) (by omega)]
theorem Te {d:Nat} (h0:1000000000000000000≤d) (h:d<18446744073709551616) :
  X6 d=[((d % 1000000000:Nat):Int),((d / 1000000000 % 1000000000:Nat):Int),((d / 1000000000 / 1000000000:Nat):Int)]:=by
 rw [A1 (by omega),P5 (by omega) (by omega)]
def dg (l:List Int):Nat→Int:=fun i=>l.getD i 0
theorem XZ {l:List Int} (h:Jb l) (i:Nat):XS (dg l i):=Jm h i
theorem FQ {l:List Int} {i:Nat} (h:l.length≤i):dg l i=0:=by unfold dg; rw [List.getD_eq_getElem?_getD,List.getElem?_eq_none h]; rfl
theorem Dh (l:List Int) (n:Nat) (h:l.length≤n):sm (dg l) n=val l:=rZ l n h
def Ze (a b:List Int) (n:Nat):List Int:=ZY (ZG (dg a) (dg b)) n ++ [Q7 (dg a) (dg b) n]
theorem MP (a b:List Int) (n:Nat) (ha:a.length≤n) (hb:b.length≤n):val (Ze a b n)=val a+val b:=by
 unfold Ze
 rw [Dl,Q1,FA,Nf,Dh a n ha,Dh b n hb]
theorem MN {a b:List Int} (ha:Jb a) (hb:Jb b) (n:Nat):Jb (Ze a b n):=by
 unfold Ze
 refine Hj.2 ⟨BV fun i _=>Ow (XZ ha i) (XZ hb i),Kx.2 ⟨?_,AY⟩⟩
 have:=CA (dg a) (dg b) n
 unfold XS; omega
theorem DA (a b:List Int) (n:Nat):(Ze a b n).length=n+1:=by simp [Ze,Q1]
def KT (a b:List Int):List Int:=ZY (Aj (dg a) (dg b)) a.length
theorem AD {a b:List Int} (ha:Jb a) (hb:Jb b) (hl:b.length≤a.length) (h:val b≤val a):val (KT a b)=val a - val b:=by
 unfold KT
 have e:=VH (n:=a.length) (fun i _=>XZ ha i) (fun i _=>XZ hb i) (by rw [Dh b _ hl,Dh a _ (Nat.le_refl _)]; exact h)
 have e2:=Od (dg a) (dg b) a.length
 rw [e,Dh a _ (Nat.le_refl _),Dh b _ hl] at e2
 rw [FA]; omega
theorem AC {a b:List Int} (ha:Jb a) (hb:Jb b):Jb (KT a b):=BV fun i _=>RV (XZ ha i) (XZ hb i)
def QY (a b:List Int) (i:Nat):List Int:=ZY (fun j=>if j<i then Aj (dg a) (dg b) j else if j=i then dg a j - Jz (dg a) (dg b) i else dg a j) a.length
theorem iB (l:List Int):ZY (dg l) l.length=l:=by
 refine List.ext_getElem (by simp [ZY]) fun i h1 h2=>?_
 simp [ZY,dg,List.getD_eq_getElem?_getD,h2]
theorem PS (a b:List Int):QY a b 0=a:=by
 unfold QY
 conv=>rhs; rw [← iB a]
 refine Km fun k _=>?_
 rw [if_neg (by omega)]
 split
 ·simp [Jz]
 ·rfl
theorem TD (a b:List Int):QY a b a.length=KT a b:=Km fun k hk=>by rw [if_pos hk]
theorem Ad (f:Nat→Int) (n k:Nat) (x:Int) (h:k<n):(ZY f n).set k x=ZY (fun q=>if q=k then x else f q) n:=by
 refine List.ext_getElem (by simp [ZY]) fun q h1 h2=>?_
 have hq:q<n:=by simpa [Q1] using h2
 by_cases e:k=q
 ·subst e; simp [ZY]
 ·simp [ZY,List.getElem_set,e,Ne.symm e]
end
end Go.Ab.N
namespace Go.Ab.N
open Go Go.Ab
open Classical
noncomputable section
theorem Ji {l m:List AV} (h:WeakL l m):Weak (.agg l) (.agg m):=fun c v hv=>by
 cases hv with
 | agg vs _ hs hr =>
  have:=(iY h) c (.tuple vs) (.tup vs _ hs hr)
  cases this with
  | tup _ _ hs' hr'=>exact .agg vs m hs' hr'
theorem Qj (f:Nat→AV) (t:Bool):Weak (.sl 0 0 f t) (X3 []):=Dm rfl (Nat.le_refl _) fun j hj=>by exact absurd hj (Nat.not_lt_zero j)
theorem Zj {n:Nat} {L:List AV} {l:List Int} {t:Bool} (hn:n=l.length) (h:L=l.map I):Weak (.sl n n (Xk L) t) (X3 l):=by
 subst hn; subst h; exact Sd l t
theorem M1 (L:List AV):∀ n off,off+n=L.length→Qt (Xk L) off 0 n=L.drop off:=by
 have key:∀ n off j,off+j+n=L.length→Qt (Xk L) off j n=L.drop (off+j):=by
  intro n
  induction n with
  | zero=>intro off j h; rw [List.drop_eq_nil_iff.2 (by omega)]; rfl
  | succ n ih =>
   intro off j h
   rw [List.drop_eq_getElem_cons (by omega)]
   simp only [Qt]
   rw [ih off (j+1) (by omega)]
   congr 1
   show L.getD (off+j) .any=_
   rw [List.getD_eq_getElem?_getD,List.getElem?_eq_getElem (by omega)]; rfl
 intro n off h
 rw [key n off 0 (by omega)]; rfl
theorem rV {P:Program} {fn:Func} {str hcs:List Nat} {r:AV} {s:AS} {t u id ver n:Nat} {L:List AV} (hr:fn.results=#[.cell t u]) (hk:Br P u=some (some n)) (hs:s.get t=.ref id ver 0)
  (ho:s.h[id]?=some (.row ver n (Xk L))) (hn:L.length=n) (h:Kj s.h (.agg L) r):RetOk (QV P fn str hcs r) s:=by
 subst hn
 refine Fk (v:=.agg L) hr ?_ h
 rw [hs,Np,hk,E5,ho,E6,rQ,M1 L _ _ (by omega)]
 simp [Qb]
theorem Q5 {P:Program} {fn:Func} {str hcs:List Nat} {r:AV} {s:AS} {t u id ver n:Nat} {L M:List AV} (hr:fn.results=#[.cell t u]) (hk:Br P u=some (some n)) (hs:s.get t=.ref id ver 0)
  (ho:s.h[id]?=some (.row ver n (Xk L))) (hn:L.length=n) (e:r=.agg M) (hset:Settled r) (h:WeakL L M):RetOk (QV P fn str hcs r) s:=by
 refine rV hr hk hs ho hn ?_
 subst e
 exact XN hset (Ji h)
end
end Go.Ab.N
namespace Go.Ab.N
open Go Go.RowKit Go.Proofs
theorem uQ:Br Tryz.prog 3=some none:=by kernel_rfl
theorem sc:Z2 Tryz.prog 3=some 1:=by kernel_rfl
theorem uO:Yx Tryz.prog 3=some .i64:=by kernel_rfl
theorem sw:Qz Tryz.prog 3=some [.int .i64 0]:=by kernel_rfl
theorem uR:Br Tryz.prog 4=some none:=by kernel_rfl
theorem sd:Z2 Tryz.prog 4=some 1:=by kernel_rfl
theorem pE:HT Tryz.prog 4=true:=by kernel_rfl
theorem sD:Qz Tryz.prog 4=some [.bool false]:=by kernel_rfl
theorem tQ:Br Tryz.prog 22=some none:=by kernel_rfl
theorem mS:Z2 Tryz.prog 22=some 1:=by kernel_rfl
theorem nX:Ag Tryz.prog 22=some (3,1,8):=by kernel_rfl
theorem tR:Br Tryz.prog 23=some none:=by kernel_rfl
theorem tA:Ag Tryz.prog 23=some (110,2,16):=by kernel_rfl
theorem tS:Br Tryz.prog 24=some none:=by kernel_rfl
theorem mT:Z2 Tryz.prog 24=some 1:=by kernel_rfl
theorem tB:Ag Tryz.prog 24=some (4,1,1):=by kernel_rfl
theorem XH:Br Tryz.prog 26=some (some 2):=by kernel_rfl
theorem mU:Z2 Tryz.prog 26=some 2:=by kernel_rfl
theorem l8:Du Tryz.prog 26 0=some (0,1,none):=by kernel_rfl
theorem jV:QE Tryz.prog 26 0=some (0,1):=by kernel_rfl
theorem l9:Du Tryz.prog 26 1=some (1,1,none):=by kernel_rfl
theorem jW:QE Tryz.prog 26 1=some (1,1):=by kernel_rfl
theorem tg:Ak Tryz.prog 26=true:=by kernel_rfl
theorem nt:Qz Tryz.prog 26=some [.bool false,.sl 0 0 (fun _=>.any) true]:=by kernel_rfl
theorem Qe:Br Tryz.prog 28=some (some 4):=by kernel_rfl
theorem mV:Z2 Tryz.prog 28=some 4:=by kernel_rfl
theorem lc:Du Tryz.prog 28 0=some (0,2,some 2):=by kernel_rfl
theorem jX:QE Tryz.prog 28 0=some (0,2):=by kernel_rfl
theorem ld:Du Tryz.prog 28 1=some (2,2,some 2):=by kernel_rfl
theorem jY:QE Tryz.prog 28 1=some (2,2):=by kernel_rfl
theorem th:Ak Tryz.prog 28=true:=by kernel_rfl
theorem nu:Qz Tryz.prog 28=some [.bool false,.sl 0 0 (fun _=>.any) true,.bool false,.sl 0 0 (fun _=>.any) true]:=by kernel_rfl
theorem oa:Br Tryz.prog 30=some (some 25):=by kernel_rfl
theorem mW:Z2 Tryz.prog 30=some 25:=by kernel_rfl
theorem jZ:QE Tryz.prog 30 0=some (0,1):=by kernel_rfl
theorem ka:QE Tryz.prog 30 1=some (1,1):=by kernel_rfl
theorem lg:Du Tryz.prog 30 2=some (2,1,none):=by kernel_rfl
theorem kc:QE Tryz.prog 30 2=some (2,1):=by kernel_rfl
theorem lh:Du Tryz.prog 30 3=some (3,1,none):=by kernel_rfl
theorem li:Du Tryz.prog 30 4=some (4,1,none):=by kernel_rfl
theorem lj:Du Tryz.prog 30 5=some (5,4,some 4):=by kernel_rfl
theorem ke:QE Tryz.prog 30 5=some (5,4):=by kernel_rfl
theorem kf:QE Tryz.prog 30 6=some (9,4):=by kernel_rfl
theorem kg:QE Tryz.prog 30 7=some (13,4):=by kernel_rfl
theorem kh:QE Tryz.prog 30 8=some (17,4):=by kernel_rfl
theorem ki:QE Tryz.prog 30 9=some (21,4):=by kernel_rfl
theorem ti:Ak Tryz.prog 30=true:=by kernel_rfl
theorem nv:Qz Tryz.prog 30=some [.int .i64 0,.int .i64 0,.sl 0 0 (fun _=>.any) true,.sl 0 0 (fun _=>.any) true,.sl 0 0 (fun _=>.any) true,.bool false,.sl 0 0 (fun _=>.any) true,.bool false,.sl 0 0 (fun _=>.any) true,.bool false,.sl 0 0 (fun _=>.any) true,.bool false,.sl 0 0 (fun _=>.any) true,.bool false,.sl 0 0 (fun _=>.any) true,.bool false,.sl 0 0 (fun _=>.any) true,.bool false,.sl 0 0 (fun _=>.any) true,.bool false,.sl 0 0 (fun _=>.any) true,.bool false,.sl 0 0 (fun _=>.any) true,.bool false,.sl 0 0 (fun _=>.any) true]:=by kernel_rfl
theorem tD:Ag Tryz.prog 35=some (28,4,64):=by kernel_rfl
theorem Mt:Br Tryz.prog 48=some (some 8):=by kernel_rfl
theorem mX:Z2 Tryz.prog 48=some 8:=by kernel_rfl
theorem lk:Du Tryz.prog 48 0=some (0,4,some 4):=by kernel_rfl
theorem kj:QE Tryz.prog 48 0=some (0,4):=by kernel_rfl
theorem ll:Du Tryz.prog 48 1=some (4,4,some 4):=by kernel_rfl
theorem kl:QE Tryz.prog 48 1=some (4,4):=by kernel_rfl
theorem tj:Ak Tryz.prog 48=true:=by kernel_rfl
theorem nw:Qz Tryz.prog 48=some [.bool false,.sl 0 0 (fun _=>.any) true,.bool false,.sl 0 0 (fun _=>.any) true,.bool false,.sl 0 0 (fun _=>.any) true,.bool false,.sl 0 0 (fun _=>.any) true]:=by kernel_rfl
theorem K8:Br Tryz.prog 50=some (some 8):=by kernel_rfl
theorem mY:Z2 Tryz.prog 50=some 8:=by kernel_rfl
theorem lm:Du Tryz.prog 50 0=some (0,4,some 4):=by kernel_rfl
theorem ko:QE Tryz.prog 50 0=some (0,4):=by kernel_rfl
theorem ln:Du Tryz.prog 50 1=some (4,4,some 4):=by kernel_rfl
theorem kq:QE Tryz.prog 50 1=some (4,4):=by kernel_rfl
theorem tk:Ak Tryz.prog 50=true:=by kernel_rfl
theorem ny:Qz Tryz.prog 50=some [.bool false,.sl 0 0 (fun _=>.any) true,.bool false,.sl 0 0 (fun _=>.any) true,.bool false,.sl 0 0 (fun _=>.any) true,.bool false,.sl 0 0 (fun _=>.any) true]:=by kernel_rfl
theorem tT:Br Tryz.prog 52=some (some 29):=by kernel_rfl
theorem mZ:Z2 Tryz.prog 52=some 29:=by kernel_rfl
theorem kr:QE Tryz.prog 52 1=some (1,1):=by kernel_rfl
theorem lu:Du Tryz.prog 52 2=some (2,1,none):=by kernel_rfl
theorem ks:QE Tryz.prog 52 2=some (2,1):=by kernel_rfl
theorem lx:Du Tryz.prog 52 3=some (3,1,none):=by kernel_rfl
theorem ku:QE Tryz.prog 52 3=some (3,1):=by kernel_rfl
theorem lz:Du Tryz.prog 52 4=some (4,1,none):=by kernel_rfl
theorem kv:QE Tryz.prog 52 4=some (4,1):=by kernel_rfl
theorem lC:Du Tryz.prog 52 5=some (5,8,some 8):=by kernel_rfl
theorem kw:QE Tryz.prog 52 5=some (5,8):=by kernel_rfl
theorem lD:Du Tryz.prog 52 6=some (13,8,some 8):=by kernel_rfl
theorem lE:Du Tryz.prog 52 7=some (21,8,some 8):=by kernel_rfl
theorem tp:Ak Tryz.prog 52=true:=by kernel_rfl
theorem nz:Qz Tryz.prog 52=some [.int .i64 0,.int .i64 0,.int .i64 0,.int .i64 0,.int .i64 0,.bool false,.sl 0 0 (fun _=>.any) true,.bool false,.sl 0 0 (fun _=>.any) true,.bool false,.sl 0 0 (fun _=>.any) true,.bool false,.sl 0 0 (fun _=>.any) true,.bool false,.sl 0 0 (fun _=>.any) true,.bool false,.sl 0 0 (fun _=>.any) true,.bool false,.sl 0 0 (fun _=>.any) true,.bool false,.sl 0 0 (fun _=>.any) true,.bool false,.sl 0 0 (fun _=>.any) true,.bool false,.sl 0 0 (fun _=>.any) true,.bool false,.sl 0 0 (fun _=>.any) true,.bool false,.sl 0 0 (fun _=>.any) true]:=by kernel_rfl
theorem V5:Br Tryz.prog 54=some (some 79):=by kernel_rfl
theorem nc:Z2 Tryz.prog 54=some 79:=by kernel_rfl
theorem lF:Du Tryz.prog 54 0=some (0,25,some 25):=by kernel_rfl
theorem kx:QE Tryz.prog 54 0=some (0,25):=by kernel_rfl
theorem lG:Du Tryz.prog 54 1=some (25,25,some 25):=by kernel_rfl
theorem ky:QE Tryz.prog 54 1=some (25,25):=by kernel_rfl
theorem lH:Du Tryz.prog 54 2=some (50,29,some 29):=by kernel_rfl
theorem tq:Ak Tryz.prog 54=true:=by kernel_rfl
theorem nC:Qz Tryz.prog 54=some [.int .i64 0,.int .i64 0,.sl 0 0 (fun _=>.any) true,.sl 0 0 (fun _=>.any) true,.sl 0 0 (fun _=>.any) true,.bool false,.sl 0 0 (fun _=>.any) true,.bool false,.sl 0 0 (fun _=>.any) true,.bool false,.sl 0 0 (fun _=>.any) true,.bool false,.sl 0 0 (fun _=>.any) true,.bool false,.sl 0 0 (fun _=>.any) true,.bool false,.sl 0 0 (fun _=>.any) true,.bool false,.sl 0 0 (fun _=>.any) true,.bool false,.sl 0 0 (fun _=>.any) true,.bool false,.sl 0 0 (fun _=>.any) true,.bool false,.sl 0 0 (fun _=>.any) true,.int .i64 0,.int .i64 0,.sl 0 0 (fun _=>.any) true,.sl 0 0 (fun _=>.any) true,.sl 0 0 (fun _=>.any) true,.bool false,.sl 0 0 (fun _=>.any) true,.bool false,.sl 0 0 (fun _=>.any) true,.bool false,.sl 0 0 (fun _=>.any) true,.bool false,.sl 0 0 (fun _=>.any) true,.bool false,.sl 0 0 (fun _=>.any) true,.bool false,.sl 0 0 (fun _=>.any) true,.bool false,.sl 0 0 (fun _=>.any) true,.bool false,.sl 0 0 (fun _=>.any) true,.bool false,.sl 0 0 (fun _=>.any) true,.bool false,.sl 0 0 (fun _=>.any) true,.int .i64 0,.int .i64 0,.int .i64 0,.int .i64 0,.int .i64 0,.bool false,.sl 0 0 (fun _=>.any) true,.bool false,.sl 0 0 (fun _=>.any) true,.bool false,.sl 0 0 (fun _=>.any) true,.bool false,.sl 0 0 (fun _=>.any) true,.bool false,.sl 0 0 (fun _=>.any) true,.bool false,.sl 0 0 (fun _=>.any) true,.bool false,.sl 0 0 (fun _=>.any) true,.bool false,.sl 0 0 (fun _=>.any) true,.bool false,.sl 0 0 (fun _=>.any) true,.bool false,.sl 0 0 (fun _=>.any) true,.bool false,.sl 0 0 (fun _=>.any) true,.bool false,.sl 0 0 (fun _=>.any) true]:=by kernel_rfl
theorem tU:Br Tryz.prog 57=some none:=by kernel_rfl
theorem nd:Z2 Tryz.prog 57=some 1:=by kernel_rfl
theorem tE:Ag Tryz.prog 57=some (52,29,424):=by kernel_rfl
theorem nD:Qz Tryz.prog 57=some [.sl 0 0 (fun _=>.any) true]:=by kernel_rfl
theorem tV:Br Tryz.prog 81=some none:=by kernel_rfl
theorem nh:Z2 Tryz.prog 81=some 1:=by kernel_rfl
theorem tG:Ag Tryz.prog 81=some (50,8,128):=by kernel_rfl
theorem nE:Qz Tryz.prog 81=some [.sl 0 0 (fun _=>.any) true]:=by kernel_rfl
theorem tW:Br Tryz.prog 84=some (some 16):=by kernel_rfl
theorem nk:Z2 Tryz.prog 84=some 16:=by kernel_rfl
theorem lI:Du Tryz.prog 84 0=some (0,8,some 8):=by kernel_rfl
theorem kz:QE Tryz.prog 84 0=some (0,8):=by kernel_rfl
theorem lJ:Du Tryz.prog 84 1=some (8,8,some 8):=by kernel_rfl
theorem kA:QE Tryz.prog 84 1=some (8,8):=by kernel_rfl
theorem tr:Ak Tryz.prog 84=true:=by kernel_rfl
theorem nF:Qz Tryz.prog 84=some [.bool false,.sl 0 0 (fun _=>.any) true,.bool false,.sl 0 0 (fun _=>.any) true,.bool false,.sl 0 0 (fun _=>.any) true,.bool false,.sl 0 0 (fun _=>.any) true,.bool false,.sl 0 0 (fun _=>.any) true,.bool false,.sl 0 0 (fun _=>.any) true,.bool false,.sl 0 0 (fun _=>.any) true,.bool false,.sl 0 0 (fun _=>.any) true]:=by kernel_rfl
theorem fU:Br Tryz.prog 110=some (some 2):=by kernel_rfl
theorem iE:Z2 Tryz.prog 110=some 2:=by kernel_rfl
theorem fw:Du Tryz.prog 110 0=some (0,1,none):=by kernel_rfl
theorem dw:QE Tryz.prog 110 0=some (0,1):=by kernel_rfl
theorem fx:Du Tryz.prog 110 1=some (1,1,none):=by kernel_rfl
theorem dz:QE Tryz.prog 110 1=some (1,1):=by kernel_rfl
theorem py:Ak Tryz.prog 110=true:=by kernel_rfl
theorem ja:Qz Tryz.prog 110=some [.int .i64 0,.int .i64 0]:=by kernel_rfl
theorem qr:Br Tryz.prog 122=some (some 2):=by kernel_rfl
theorem iF:Z2 Tryz.prog 122=some 2:=by kernel_rfl
theorem pP:Ag Tryz.prog 122=none:=by kernel_rfl
theorem dC:QE Tryz.prog 122 0=some (0,1):=by kernel_rfl
theorem dD:QE Tryz.prog 122 1=some (1,1):=by kernel_rfl
theorem pz:Ak Tryz.prog 122=true:=by kernel_rfl
theorem pm:Wu Tryz.prog 122=some (2,1,none):=by kernel_rfl
theorem jb:Qz Tryz.prog 122=some [.int .i64 0,.int .i64 0]:=by kernel_rfl
theorem pQ:Ag Tryz.prog 123=some (122,2,16):=by kernel_rfl
theorem pR:Ag Tryz.prog 148=some (48,8,128):=by kernel_rfl
theorem qi:Yx Tryz.prog 187=some .u64:=by kernel_rfl
theorem qu:Br Tryz.prog 191=some none:=by kernel_rfl
theorem pS:Ag Tryz.prog 191=some (81,1,24):=by kernel_rfl
theorem qj:Yx Tryz.prog 197=some .u64:=by kernel_rfl
theorem pT:Ag Tryz.prog 241=some (244,3,24):=by kernel_rfl
theorem fV:Br Tryz.prog 244=some (some 3):=by kernel_rfl
theorem iG:Z2 Tryz.prog 244=some 3:=by kernel_rfl
theorem pU:Ag Tryz.prog 244=none:=by kernel_rfl
theorem dE:QE Tryz.prog 244 0=some (0,1):=by kernel_rfl
theorem dF:QE Tryz.prog 244 1=some (1,1):=by kernel_rfl
theorem dG:QE Tryz.prog 244 2=some (2,1):=by kernel_rfl
theorem pC:Ak Tryz.prog 244=true:=by kernel_rfl
theorem po:Wu Tryz.prog 244=some (3,1,none):=by kernel_rfl
theorem jc:Qz Tryz.prog 244=some [.int .i64 0,.int .i64 0,.int .i64 0]:=by kernel_rfl
theorem qv:Br Tryz.prog 249=some none:=by kernel_rfl
theorem fy:Du Tryz.prog 252 0=some (0,1,none):=by kernel_rfl
theorem dH:QE Tryz.prog 252 0=some (0,1):=by kernel_rfl
theorem fz:Du Tryz.prog 252 1=some (1,1,none):=by kernel_rfl
theorem pD:Ak Tryz.prog 252=true:=by kernel_rfl
theorem jd:Qz Tryz.prog 252=some [.sl 0 0 (fun _=>.any) true,.sl 0 0 (fun _=>.any) true]:=by kernel_rfl
theorem mixed:Tryz.prog.follows .mixedOrders=true:=by kernel_rfl
theorem Fq {f:FuncId} {fn:Func} {body:Code} {args:List AV} {r:AV} (he:ZE Tryz.prog f) (hf:Tryz.prog.funcs[f]?=some fn) (n0:Nat) (hid str hcs:List Nat) (hs:∀ a∈args,Settled a) (h:Run (QV Tryz.prog fn str hcs r) [.code body] (AS.start n0 hid args [])) (hb:fn.body=some body:=by rfl) (hok:Qi fn.ntmps str hcs body=true:=by kernel_rfl) (hlen:args.length≤fn.ntmps:=by exact Nat.le_of_ble_eq_true rfl):Fn Tryz.prog f args r:=Fn.intro he hf hb mixed n0 hid str hcs hok hlen hs h
set_option linter.defProp false in
def sv:=And.intro @uQ <| And.intro @sc <| And.intro @uO <| And.intro @sw <| And.intro @uR <| And.intro @sd <| And.intro @pE <| And.intro @sD <| And.intro @tQ <| And.intro @mS <| And.intro @nX <| And.intro @tR <| And.intro @tA <| And.intro @tS <| And.intro @mT <| And.intro @tB <| And.intro @XH <| And.intro @mU <| And.intro @l8 <| And.intro @jV <| And.intro @l9 <| And.intro @jW <| And.intro @tg <| And.intro @nt <| And.intro @Qe <| And.intro @mV <| And.intro @lc <| And.intro @jX <| And.intro @ld <| And.intro @jY <| And.intro @th <| And.intro @nu <| And.intro @oa <| And.intro @mW <| And.intro @jZ <| And.intro @ka <| And.intro @lg <| And.intro @kc <| And.intro @lh <| And.intro @li <| And.intro @lj <| And.intro @ke <| And.intro @kf <| And.intro @kg <| And.intro @kh <| And.intro @ki <| And.intro @ti <| And.intro @nv <| And.intro @tD <| And.intro @Mt <| And.intro @mX <| And.intro @lk <| And.intro @kj <| And.intro @ll <| And.intro @kl <| And.intro @tj <| And.intro @nw <| And.intro @K8 <| And.intro @mY <| And.intro @lm <| And.intro @ko <| And.intro @ln <| And.intro @kq <| And.intro @tk <| And.intro @ny <| And.intro @tT <| And.intro @mZ <| And.intro @kr <| And.intro @lu <| And.intro @ks <| And.intro @lx <| And.intro @ku <| And.intro @lz <| And.intro @kv <| And.intro @lC <| And.intro @kw <| And.intro @lD <| And.intro @lE <| And.intro @tp <| And.intro @nz <| And.intro @V5 <| And.intro @nc <| And.intro @lF <| And.intro @kx <| And.intro @lG <| And.intro @ky <| And.intro @lH <| And.intro @tq <| And.intro @nC <| And.intro @tU <| And.intro @nd <| And.intro @tE <| And.intro @nD <| And.intro @tV <| And.intro @nh <| And.intro @tG <| And.intro @nE <| And.intro @tW <| And.intro @nk <| And.intro @lI <| And.intro @kz <| And.intro @lJ <| And.intro @kA <| And.intro @tr <| And.intro @nF <| And.intro @fU <| And.intro @iE <| And.intro @fw <| And.intro @dw <| And.intro @fx <| And.intro @dz <| And.intro @py <| And.intro @ja <| And.intro @qr <| And.intro @iF <| And.intro @pP <| And.intro @dC <| And.intro @dD <| And.intro @pz <| And.intro @pm <| And.intro @jb <| And.intro @pQ <| And.intro @pR <| And.intro @qi <| And.intro @qu <| And.intro @pS <| And.intro @qj <| And.intro @pT <| And.intro @fV <| And.intro @iG <| And.intro @pU <| And.intro @dE <| And.intro @dF <| And.intro @dG <| And.intro @pC <| And.intro @po <| And.intro @jc <| And.intro @qv <| And.intro @fy <| And.intro @dH <| And.intro @fz <| And.intro @pD <| @jd
set_option linter.defProp false in
def wA:=And.intro @uq <| And.intro @uo <| And.intro @un <| And.intro @beq_self_eq_true.{0} <| And.intro @ite_true.{1} <| And.intro @ite_false.{1} <| And.intro @false_implies <| And.intro @true_implies <| And.intro @implies_true.{1} <| And.intro @implies_true.{0} <| And.intro @eq_self.{1} <| And.intro @ne_eq.{1} <| @sv
theorem Xi {X:Env} {k:List Item} {s:AS} (h:Qr (B5 s) fun s=>vc X 1000 k s):Run X k s:=J8 1000 h
theorem Ku {m:Nat} {s s':AS} (h3:Xg s.sl s'.sl) (h5:s.h=s'.h) (h1:s'.n0=s.n0:=by rfl) (h4:Xn s.tm s'.tm:=by simp [Xn]):Sub m s s':=Xf h1 h3 h4 h5
theorem sI {b m:Nat} {s s':AS} (h3:Xg s.sl s'.sl) (h5:s.h.take m=s'.h) (h6:∀ a∈s'.sl,Kn m a) (h8:∀ o∈s'.h,XW m o) (h7:∀ p∈s'.tm,Kn m p.2:=by simp [XA]) (h4:Xn s.tm s'.tm:=by simp [Xn]) (h1:s'.n0=s.n0:=by rfl) (hbm:b≤m:=by exact Nat.zero_le _):Sub b s s':=XD hbm h1 h3 h4 h5 h6 h7 h8
end Go.Ab.N
namespace Go.Ab.N
open Go Go.RowKit Go.Proofs
noncomputable section
set_option maxRecDepth 10000
set_option maxHeartbeats 2000000
open Classical
def gq (neg:Bool) (l:List Int):AV:=.agg [.bool (neg && decide (Zu l l.length≠0)),X3 (l.take (Zu l l.length))]
theorem JO (neg:Bool) (l:List Int):Settled (gq neg l):=Qh (by simp [X8,X2])
theorem tY (neg:Bool) (d:List Int) (hl:d.length<4611686018427387904):Fn Tryz.prog 208 [.bool neg,X3 d] (gq neg d):=by
 refine Fq Tryz.call208 Tryz.func208 6 [] [] [] (by simp [X8,X9,JM,J9,X2,JN,Xy,JO,Jf]) (Xi ?_); simp (maxSteps:=999999) only [AS.start,↓X1,wA,seval,zA,wN]
 refine Xd (fun n:Nat=>⟨6,[],[.bool neg,X3 d,.any,.any,.ref 0 0 0,I n],[],[.row 0 2 (Xk [.bool false,.sl 0 0 (fun _=>.any) true])]⟩) (fun n=>n≤d.length∧Zu d d.length=Zu d n) (fun n=>n) d.length ⟨by omega,rfl⟩
  (Ku (by simp [zA,wN,Xg,X3,BC,Zx,Qg,I]) rfl) ?_
 rintro n ⟨hn,ht⟩ next
 cases n with
 | zero =>
  refine Xi ?_
  simp only [Int.lt_irrefl,↓X1,wA,seval,zA,wN]
  refine Fk (v:=.agg [.bool false,.sl 0 0 (fun _=>.any) false]) rfl (by simp [AS.get,JH,XH,rd,Qt,Xk,BG]) ?_
  have e:gq neg d=.agg [.bool false,X3 []]:=by unfold gq; rw [ht]; simp [Zu]
  rw [e]
  exact Dc ⟨Qx (X2 _) rfl,XN (X8 _) (Qj _ _),trivial⟩
 | succ n =>
  have e0:(0<((n+1:Nat):Int))=True:=eq_true (by omega)
  have e1:(((n+1:Nat):Int)=0)=False:=eq_false (by omega)
  have w1:IntKind.i64.wrap (((n+1:Nat):Int) - 1)=(n:Int):=by rw [IntKind.wrap_i64]; omega
  have e2:(n<d.length)=True:=eq_true (by omega)
  refine Xi ?_
  simp only [e0,e1,e2,w1,↓X1,wA,seval,zA,wN]
  refine ⟨fun h0=>next n _ ⟨by omega,by rw [ht]; simp only [Zu]; rw [if_pos h0]⟩ (by omega) (Ku (by simp [zA,wN,Xg,X3,BC,Zx,Qg,I]) rfl),fun h0=>⟨by omega,?_⟩⟩
  have ht2:Zu d d.length=n+1:=by rw [ht]; simp only [Zu]; rw [if_neg h0]
  have e:gq neg d=.agg [.bool neg,X3 (d.take (n+1))]:=by unfold gq; rw [ht2]; simp
  have hlen:(d.take (n+1)).length=n+1:=by rw [List.length_take]; omega
  rw [e]
  refine Fk (v:=.agg [.bool neg,.sl (n+1) (n+1) (fun j=>.int .i64 (d.getD j 0)) false]) rfl ?_ ?_
  ·have m1:min (n+1) d.length=n+1:=by omega
   simp [AS.get,JH,XH,rd,Qt,Xk,BG,m1]
  ·refine Dc ⟨Qx (X2 _) rfl,XN (X8 _) (FC _ hlen.symm (by omega) fun j hj=>?_),trivial⟩
   rw [hlen] at hj
   rw [As d 0 j (n+1) hj]; rfl
set_option linter.defProp false in
def JV:=And.intro @X8 (And.intro @X9 (And.intro @JM (And.intro @J9 (And.intro @X2 (And.intro @JN (And.intro @Xy (And.intro @JO @Jf)))))))
theorem j9 (neg:Bool) {u:Int} (h:0≤u):zA (Ki neg u)=.agg [.bool (neg && decide (u≠0)),X3 (X6 u.toNat)]:=by
 unfold zA
 have e1:(Ki neg u).natAbs=u.toNat:=by unfold Ki; split <;> omega
 rw [e1]
 congr 3
 unfold Ki
 have h0':¬ u<0:=by omega
 cases neg
 ·simp [h0']
 ·have:-u<0↔¬ u=0:=by omega
  simp only [if_true,Bool.true_and,decide_eq_decide,ne_eq]
  exact this
def U (n:Int):AV:=.int .u64 n
theorem KG (neg:Bool) (u:Int) (h0:0≤u) (h1:u<18446744073709551616):Fn Tryz.prog 207 [.bool neg,.int .u64 u] (zA (Ki neg u)):=by
 obtain ⟨R,hR⟩:∃ R,R=zA (Ki neg u):=⟨_,rfl⟩
 have eR:=hR.trans (j9 neg h0)
 have sR:Settled R:=hR▸Xy _
 have b1:u≠0→(neg && decide (u≠0))=neg:=fun h=>by simp [h]
 have w1:IntKind.i64.wrap (u.tmod 1000000000)=u % 1000000000:=by rw [IntKind.wrap_i64,Int.tmod_eq_emod_of_nonneg h0]; omega
 have w2:IntKind.u64.wrap (u.tdiv 1000000000)=u / 1000000000:=by rw [IntKind.wrap_u64,Int.tdiv_eq_ediv_of_nonneg h0]; omega
 have h2:0≤u / 1000000000:=by omega
 have w3:IntKind.i64.wrap (u / 1000000000)=u / 1000000000:=by rw [IntKind.wrap_i64]; omega
 have w4:IntKind.i64.wrap ((u / 1000000000).tmod 1000000000)=u / 1000000000 % 1000000000:=by rw [IntKind.wrap_i64,Int.tmod_eq_emod_of_nonneg h2]; omega
 have w5:IntKind.u64.wrap ((u / 1000000000).tdiv 1000000000)=u / 1000000000 / 1000000000:=by rw [IntKind.wrap_u64,Int.tdiv_eq_ediv_of_nonneg h2]; omega
 have w6:IntKind.i64.wrap (u / 1000000000 / 1000000000)=u / 1000000000 / 1000000000:=by rw [IntKind.wrap_i64]; omega
 rw [← hR]
 refine Fq Tryz.call207 Tryz.func207 6 [] [] [] (by simp [JV]) (Xi ?_); simp (maxSteps:=999999) only [AS.start,↓X1,wA,↓reduceIte,reduceIte,reduceCtorEq,Y1,Y2,Y3,Y4,Y5,Y6,Y7,Y8,Y9,YA,zA,wN]
 simp only [w1,w2,w3,w4,w5,w6]
 refine ⟨fun a=>?_,fun a0=>⟨fun a1=>?_,fun a1=>⟨fun a2=>⟨by omega,by omega,?_⟩,fun a2=>⟨by omega,by omega,by omega,by omega,by omega,?_⟩⟩⟩⟩
 ·rw [a,show (neg && decide ((0:Int)≠0))=false by simp,show (0:Int).toNat=0 from rfl,Q0] at eR
  exact Q5 rfl XH rfl rfl rfl eR sR ⟨Weak.rfl' _,Qj _ _,trivial⟩
 ·have w0:IntKind.i64.wrap u=u:=by rw [IntKind.wrap_i64]; omega
  rw [b1 a0,I7 (by omega) (by omega),Int.toNat_of_nonneg h0] at eR
  rw [w0]
  exact Q5 rfl XH rfl rfl rfl eR sR ⟨Weak.rfl' _,Zj rfl rfl,trivial⟩
 ·rw [b1 a0,P5 (by omega) (by omega)] at eR
  have e1:((u.toNat % 1000000000:Nat):Int)=u % 1000000000:=by omega
  have e2:((u.toNat / 1000000000:Nat):Int)=u / 1000000000:=by omega
  rw [e1,e2] at eR
  exact Q5 rfl XH rfl rfl rfl eR sR ⟨Weak.rfl' _,Zj rfl rfl,trivial⟩
 ·rw [b1 a0,Te (by omega) (by omega)] at eR
  have e1:((u.toNat % 1000000000:Nat):Int)=u % 1000000000:=by omega
  have e2:((u.toNat / 1000000000 % 1000000000:Nat):Int)=u / 1000000000 % 1000000000:=by omega
  have e3:((u.toNat / 1000000000 / 1000000000:Nat):Int)=u / 1000000000 / 1000000000:=by omega
  rw [e1,e2,e3] at eR
  exact Q5 rfl XH rfl rfl rfl eR sR ⟨Weak.rfl' _,Zj rfl rfl,trivial⟩
theorem NP (z:Int):Fn Tryz.prog 196 [zA z] (zA (-z)):=by
 have e:(-z).natAbs=z.natAbs:=by omega
 have e0:z.natAbs=0↔z=0:=by omega
 have e1:(X6 z.natAbs).length=0↔z=0:=digs_len_zero.trans e0
 refine Fq Tryz.call196 Tryz.func196 3 [] [] [] (by simp [JV]) (Xi ?_); simp (maxSteps:=999999) only [AS.start,↓X1,wA,↓reduceIte,reduceIte,reduceCtorEq,Y1,Y2,Y3,Y4,Y5,Y6,Y7,Y8,Y9,YA,zA,wN]
 refine ⟨fun h=>Q5 rfl XH rfl rfl rfl rfl (Xy _) ?_,fun h=>Q5 rfl XH rfl rfl rfl rfl (Xy _) ?_⟩
 ·rw [e]
  have:decide (-z<0)=decide (0<((X6 z.natAbs).length:Int)):=by rw [decide_eq_decide]; omega
  rw [this]
  exact ⟨Weak.rfl' _,Weak.rfl' _,trivial⟩
 ·rw [e,show decide (-z<0)=false from decide_eq_false (by omega)]
  exact ⟨Weak.rfl' _,Weak.rfl' _,trivial⟩
theorem mJ (z:Int):Fn Tryz.prog 155 [zA z] (I z.sign):=by
 have e0:z.natAbs=0↔z=0:=by omega
 have e1:(X6 z.natAbs).length=0↔z=0:=digs_len_zero.trans e0
 refine Fq Tryz.call155 Tryz.func155 4 [] [] [] (by simp [JV]) (Xi ?_); simp (maxSteps:=999999) only [AS.start,↓X1,wA,↓reduceIte,reduceIte,reduceCtorEq,Y1,Y2,Y3,Y4,Y5,Y6,Y7,Y8,Y9,YA,zA,wN]
 refine ⟨fun h=>Xx rfl rfl (X9 _) ?_,fun h=>⟨fun h2=>Xx rfl rfl (X9 _) ?_,fun h2=>Xx rfl rfl (X9 _) ?_⟩⟩
 ·rw [Int.sign_eq_neg_one_of_neg h]; rfl
 ·rw [e1.1 (by omega)]; rfl
 ·rw [Int.sign_eq_one_of_pos (by omega)]; rfl
theorem Og (d:List Int) (h:Jb d):Fn Tryz.prog 226 [X3 d] (.tup [I (if d.length≤2 then val d else 0),.bool (decide (d.length≤2))]):=by
 have k2:¬ d.length≤2→I 0=I (if d.length≤2 then val d else 0)∧AV.bool false=.bool (decide (d.length≤2)):=fun h=>by simp [h]
 have k1:d.length≤2→∀ x,x=val d→I x=I (if d.length≤2 then val d else 0)∧AV.bool true=.bool (decide (d.length≤2)):=fun h x hx=>by simp [h,hx]
 refine Fq Tryz.call226 Tryz.func226 4 [5] [] [] (by simp [JV]) (Xi ?_); simp (maxSteps:=999999) only [AS.start,↓X1,wA,↓reduceIte,reduceIte,reduceCtorEq,Y1,Y2,Y3,Y4,Y5,Y6,Y7,Y8,Y9,YA,zA,wN]
 have fin:∀ {s:AS} {x:Int},s.get 2=I x→s.get 3=.bool true→d.length≤2→x=val d→RetOk (QV Tryz.prog Tryz.f226 [] [] (.tup [I (if d.length≤2 then val d else 0),.bool (decide (d.length≤2))])) s:=fun h1 h2 hl hx =>
  Rv rfl h1 h2 (X9 _) (X2 _) (k1 hl _ hx).1 (k1 hl _ hx).2
 refine ⟨fun a=>fin rfl rfl (by omega) ?_,fun a0=>⟨fun a=>⟨by omega,by omega,fin rfl rfl (by omega) ?_⟩,fun a1=>⟨fun a=>⟨⟨by omega,by omega⟩,by omega,by omega,by omega,fin rfl rfl (by omega) ?_⟩,fun a2=>Rv rfl rfl rfl (X9 _) (X2 _) (k2 (by omega)).1 (k2 (by omega)).2⟩⟩⟩
 ·obtain rfl:d=[]:=List.length_eq_zero_iff.1 (by omega)
  rfl
 ·obtain ⟨x,rfl⟩:=List.length_eq_one_iff.1 (show d.length=1 by omega)
  simp [val]
 ·obtain ⟨x,y,rfl⟩:∃ x y,d=[x,y]:=by
   match d,a with
   | [x,y],_=>exact ⟨x,y,rfl⟩
   | [],h=>exact absurd h (by simp)
   | [_],h=>exact absurd h (by simp)
   | _ :: _ :: _ :: _,h=>exact absurd h (by simp; omega)
  have h1:=h x (by simp)
  have h2:=h y (by simp)
  unfold XS at h1 h2
  simp only [List.getD_cons_zero,List.getD_cons_succ,val,IntKind.wrap_i64]
  omega
theorem PJ (a:Int):Fn Tryz.prog 267 [I a] (.bool false):=by
 refine Fq Tryz.call267 Tryz.func267 3 [] [] [] (by simp [JV]) (Xi ?_); simp (maxSteps:=999999) only [AS.start,↓X1,wA,↓reduceIte,reduceIte,reduceCtorEq,Y1,Y2,Y3,Y4,Y5,Y6,Y7,Y8,Y9,YA,zA,wN]
 exact Xx rfl rfl (X2 _) rfl
theorem UC (a b:Int):Fn Tryz.prog 249 [I a,I b] (I (a - b).sign):=by
 refine Fq Tryz.call249 Tryz.func249 7 [] [] [] (by simp [JV]) (Xi ?_); simp (maxSteps:=999999) only [AS.start,↓X1,wA,↓reduceIte,reduceIte,reduceCtorEq,Y1,Y2,Y3,Y4,Y5,Y6,Y7,Y8,Y9,YA,zA,wN]
 refine X0 (PJ a) rfl ?_
 simp only [↓X1,wA,↓reduceIte,reduceIte,reduceCtorEq,Y1,Y2,Y3,Y4,Y5,Y6,Y7,Y8,Y9,YA,zA,wN]
 refine X0 (PJ b) rfl ?_
 simp only [↓X1,wA,↓reduceIte,reduceIte,reduceCtorEq,Y1,Y2,Y3,Y4,Y5,Y6,Y7,Y8,Y9,YA,zA,wN]
 refine ⟨fun h=>Xx rfl rfl (X9 _) ?_,fun h=>⟨fun h2=>Xx rfl rfl (X9 _) ?_,fun h2=>Xx rfl rfl (X9 _) ?_⟩⟩
 ·rw [Int.sign_eq_neg_one_of_neg (by omega)]; rfl
 ·rw [Int.sign_eq_one_of_pos (by omega)]; rfl
 ·rw [show a - b=0 by omega]; rfl
theorem e6 {a b:List Int} (ha:Jb a) (hb:Jb b) (hl:a.length=b.length) {i:Nat} (hi:i<a.length) (he:a.drop (i+1)=b.drop (i+1)) (hne:a.getD i 0≠b.getD i 0) :
  (val a - val b).sign=(a.getD i 0 - b.getD i 0).sign:=by
 rw [Jl a i (by omega),Jl b i (by omega),K4 a i hi,K4 b i (by omega),he]
 have h1:=XO (Qv ha i)
 have h2:=XO (Qv hb i)
 have h3:=KV (Qv ha i)
 have h4:=KV (Qv hb i)
 have e1:(a.take i).length=i:=by rw [List.length_take]; omega
 have e2:(b.take i).length=i:=by rw [List.length_take]; omega
 rw [e1] at h3
 rw [e2] at h4
 generalize val (a.take i)=p at *
 generalize val (b.take i)=q at *
 generalize val (b.drop (i+1))=r at *
 generalize a.getD i 0=x at *
 generalize b.getD i 0=y at *
 have hp:=JE i
 generalize pw i=P at *
 have e:p+P*(x+1000000000*r) - (q+P*(y+1000000000*r))=(p - q)+P*(x - y):=by grind
 rw [e]
 rcases Int.lt_or_gt_of_ne hne with h | h
 ·rw [Int.sign_eq_neg_one_of_neg (show x - y<0 by omega)]
  have:P*(x - y)≤P*(-1):=Int.mul_le_mul_of_nonneg_left (by omega) (by omega)
  exact Int.sign_eq_neg_one_of_neg (by omega)
 ·rw [Int.sign_eq_one_of_pos (show 0<x - y by omega)]
  have:P*1≤P*(x - y):=Int.mul_le_mul_of_nonneg_left (by omega) (by omega)
  exact Int.sign_eq_one_of_pos (by omega)
theorem CH {a b:List Int} (ha:Zp a) (hb:Zp b) (h:a.length<b.length):val a<val b:=by
 have h1:=KV ha.1
 have hne:b≠[]:=fun e=>by rw [e] at h; simp at h
 have h2:=Bw hb hne
 have h3:=C8 (show a.length≤b.length - 1 by omega)
 omega
theorem EU {a b:List Int} (hl:a.length=b.length) {i:Nat} (hi:i<a.length) (he:a.drop (i+1)=b.drop (i+1)) (h:a.getD i 0=b.getD i 0):a.drop i=b.drop i:=by
 have hi2:i<b.length:=by omega
 rw [List.drop_eq_getElem_cons hi,List.drop_eq_getElem_cons hi2,he]
 rw [List.getD_eq_getElem?_getD,List.getElem?_eq_getElem hi,List.getD_eq_getElem?_getD,List.getElem?_eq_getElem hi2] at h
 simp only [Option.getD_some] at h
 rw [h]
theorem BT (a b:List Int) (ha:Zp a) (hb:Zp b) (la:a.length<4611686018427387904):Fn Tryz.prog 215 [X3 a,X3 b] (I (val a - val b).sign):=by
 have hc:a.length≠b.length→Fn Tryz.prog 249 [I a.length,I b.length] (I (val a - val b).sign):=fun h=>by
  have e:((a.length:Int) - b.length).sign=(val a - val b).sign:=by
   rcases Nat.lt_or_gt_of_ne h with h' | h'
   ·have:=CH ha hb h'
    rw [Int.sign_eq_neg_one_of_neg (by omega),Int.sign_eq_neg_one_of_neg (by omega)]
   ·have:=CH hb ha h'
    rw [Int.sign_eq_one_of_pos (by omega),Int.sign_eq_one_of_pos (by omega)]
  rw [← e]; exact UC _ _
 refine Fq Tryz.call215 Tryz.func215 6 [] [] [] (by simp [JV]) (Xi ?_); simp (maxSteps:=999999) only [AS.start,↓X1,wA,seval,zA,wN]
 refine ⟨fun h=>X0 (hc h) rfl ?_,fun hl=>?_⟩
 ·simp only [↓X1,wA,seval,zA,wN]
  exact Xx rfl rfl (X9 _) rfl
 refine Xd (fun k:Nat=>⟨6,[],[X3 a,X3 b,.any,.any,I 0,I ((k:Int) - 1)],[],[]⟩) (fun k=>k≤a.length∧a.drop k=b.drop k) (fun k=>k) a.length ⟨by omega,by rw [List.drop_length,hl,List.drop_length]⟩
  ?_ ?_
 ·have w0:IntKind.i64.wrap ((a.length:Int) - 1)=(a.length:Int) - 1:=by rw [IntKind.wrap_i64]; omega
  rw [w0]
  exact (Ku (by simp [zA,wN,Xg,X3,BC,Zx,Qg,I]) rfl)
 rintro k ⟨hk,he⟩ next
 cases k with
 | zero =>
  refine Xi ?_
  have e0:(0≤((0:Nat):Int) - 1)=False:=eq_false (by omega)
  have e1:((0:Int)≤0 - 1)=False:=eq_false (by omega)
  simp only [e0,e1,↓X1,wA,seval,zA,wN]
  refine Xx rfl rfl (X9 _) ?_
  rw [List.drop_zero,List.drop_zero] at he
  rw [he,Int.sub_self]; rfl
 | succ k =>
  have e1:((k+1:Nat):Int) - 1=(k:Int):=by omega
  have w1:IntKind.i64.wrap ((k:Int) - 1)=(k:Int) - 1:=by rw [IntKind.wrap_i64]; omega
  have e2:((k:Int)<a.length)=True:=eq_true (by omega)
  have e3:(k<a.length)=True:=eq_true (by omega)
  have e4:(k<b.length)=True:=eq_true (by omega)
  have hcm:a.getD k 0≠b.getD k 0→Fn Tryz.prog 249 [I (a.getD k 0),I (b.getD k 0)] (I (val a - val b).sign):=fun h=>by
   rw [e6 ha.1 hb.1 hl (by omega) he h]; exact UC _ _
  refine Xi ?_
  simp only [e1,w1,e3,e4,↓X1,wA,seval,zA,wN]
  refine ⟨fun h=>X0 (hcm h) rfl ?_,fun h=>next k _ ⟨by omega,EU hl (by omega) he h⟩ (by omega) (Ku (by simp [zA,wN,Xg,X3,BC,Zx,Qg,I]) rfl)⟩
  simp only [↓X1,wA,seval,zA,wN]
  exact Xx rfl rfl (X9 _) rfl
theorem El (n:Int) (h:ZJ n):Fn Tryz.prog 148 [I n] (zA n):=by
 obtain ⟨R,hR⟩:∃ R,R=zA n:=⟨_,rfl⟩
 have sR:Settled R:=hR▸Xy _
 unfold ZJ at h
 have c1:n<0→Fn Tryz.prog 207 [.bool (decide (n<0)),.int .u64 (IntKind.u64.wrap (0 - IntKind.u64.wrap n))] R:=fun h1=>by
  have e:IntKind.u64.wrap (0 - IntKind.u64.wrap n) = -n:=by rw [IntKind.wrap_u64,IntKind.wrap_u64]; omega
  have e2:Ki (decide (n<0)) (-n)=n:=by unfold Ki; rw [if_pos (decide_eq_true h1)]; omega
  have:=KG (decide (n<0)) (-n) (by omega) (by omega)
  rw [e2] at this
  rw [e,hR]; exact this
 have c2:¬ n<0→Fn Tryz.prog 207 [.bool (decide (n<0)),.int .u64 (IntKind.u64.wrap n)] R:=fun h1=>by
  have e:IntKind.u64.wrap n=n:=by rw [IntKind.wrap_u64]; omega
  have e2:Ki (decide (n<0)) n=n:=by unfold Ki; rw [if_neg (by simp; omega)]
  have:=KG (decide (n<0)) n (by omega) (by omega)
  rw [e2] at this
  rw [e,hR]; exact this
 rw [← hR]
 refine Fq Tryz.call148 Tryz.func148 4 [] [] [] (by simp [JV]) (Xi ?_); simp (maxSteps:=999999) only [AS.start,↓X1,wA,seval,zA,wN]
 refine ⟨fun h1=>X0 (c1 h1) rfl ?_,fun h1=>X0 (c2 h1) rfl ?_⟩
 ·simp only [hR,↓X1,wA,seval,zA,wN]
  exact Q5 rfl XH rfl rfl rfl hR sR ⟨Weak.rfl' _,Weak.rfl' _,trivial⟩
 ·simp only [hR,↓X1,wA,seval,zA,wN]
  exact Q5 rfl XH rfl rfl rfl hR sR ⟨Weak.rfl' _,Weak.rfl' _,trivial⟩
end
end Go.Ab.N
