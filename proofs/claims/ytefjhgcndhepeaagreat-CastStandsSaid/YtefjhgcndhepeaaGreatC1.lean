/- Contracts of functions of these chapters, for every argument that fits, and what they need. -/
import Derived.Test.YtefjhgcndhepeaaGreatAb4
import Derived.Test.YtefjhgcndhepeaaGreatRows
import Derived.KernelRfl
set_option linter.unusedSimpArgs false
set_option linter.unusedVariables false
open Nat renaming reducePow → Y1, reduceLT → Y2, reduceLeDiff → Y3, reduceEqDiff → Y4, reduceAdd → Y5, reduceMul → Y6, reduceSub → Y7, reduceBEq → Y8, reduceDiv → Y9, reduceMod → YA
namespace Go.Ab.N
open Go.Ab
open Classical
noncomputable section
def pw:Nat→Int
 | 0=>1
 | n+1=>1000000000*pw n
theorem JW:∀ n,0<pw n
 | 0=>by simp [pw]
 | n+1=>by have:=JW n; simp only [pw]; omega
theorem Fu (m n:Nat):pw (m+n)=pw m*pw n:=by
 induction m with
 | zero=>simp [pw]
 | succ m ih=>rw [show m+1+n=(m+n)+1 by omega]; simp only [pw]; rw [ih,Int.mul_assoc]
theorem D6 {m n:Nat} (h:m≤n):pw m≤pw n:=by
 obtain ⟨k,rfl⟩:=Nat.exists_eq_add_of_le h
 induction k with
 | zero=>exact Int.le_refl _
 | succ k ih =>
  have h1:=ih (by omega)
  have h2:=JW (m+k)
  rw [show m+(k+1)=(m+k)+1 by omega]
  simp only [pw]; omega
def val:List Int→Int
 | []=>0
 | d :: l=>d+1000000000*val l
def Q3 (d:Int):Prop:=0≤d∧d<1000000000
def Jo (l:List Int):Prop:=∀ d∈l,Q3 d
def ZX (l:List Int):Prop:=Jo l∧(l≠[]→l.getD (l.length - 1) 0≠0)
theorem C7:Jo []:=fun _ h=>by cases h
theorem KM {d:Int} {l:List Int}:Jo (d :: l)↔Q3 d∧Jo l:=by unfold Jo; simp
theorem Io {l m:List Int}:Jo (l ++ m)↔Jo l∧Jo m:=by
 unfold Jo
 constructor
 ·exact fun h=>⟨fun d hd=>h d (List.mem_append_left _ hd),fun d hd=>h d (List.mem_append_right _ hd)⟩
 ·rintro ⟨h1,h2⟩ d hd
  rcases List.mem_append.1 hd with h | h
  ·exact h1 d h
  ·exact h2 d h
theorem Jw {l:List Int} (h:Jo l) (i:Nat):Q3 (l.getD i 0):=by
 by_cases hi:i<l.length
 ·exact h _ (JD hi)
 ·rw [List.getD_eq_getElem?_getD,List.getElem?_eq_none (by omega)]; exact ⟨by simp,by simp⟩
theorem QN {l:List Int} (h:Jo l) (n:Nat):Jo (l.take n):=fun d hd=>h d (List.mem_of_mem_take hd)
theorem Na {l:List Int} (h:∀ i,i<l.length→Q3 (l.getD i 0)):Jo l:=by
 intro d hd
 obtain ⟨i,hi,rfl⟩:=List.getElem_of_mem hd
 have:=h i hi
 rwa [List.getD_eq_getElem?_getD,List.getElem?_eq_getElem hi] at this
theorem XU {l:List Int} (h:Jo l):0≤val l:=by
 induction l with
 | nil=>exact Int.le_refl 0
 | cons d l ih =>
  obtain ⟨h1,h2⟩:=KM.1 h
  have:=ih h2
  simp only [val]; unfold Q3 at h1; omega
theorem Zj {l:List Int} (h:Jo l):val l<pw l.length:=by
 induction l with
 | nil=>simp [val,pw]
 | cons d l ih =>
  obtain ⟨h1,h2⟩:=KM.1 h
  have:=ih h2
  simp only [val,List.length_cons,pw]; unfold Q3 at h1; omega
theorem Pg (l m:List Int):val (l ++ m)=val l+pw l.length*val m:=by
 induction l with
 | nil=>simp [val,pw]
 | cons d l ih =>
  simp only [List.cons_append,val,List.length_cons,pw]
  rw [ih,Int.mul_add,Int.mul_assoc]; omega
theorem E9 (l:List Int) (x:Int):val (l ++ [x])=val l+pw l.length*x:=by
 rw [Pg]; simp [val]
theorem Jm (l:List Int) (i:Nat) (h:i<l.length):val (l.take (i+1))=val (l.take i)+pw i*l.getD i 0:=by
 rw [Qs l 0 i h,E9,List.length_take,Nat.min_eq_left (by omega)]
theorem EF (n:Nat):val (List.replicate n 0)=0:=by
 induction n with
 | zero=>rfl
 | succ n ih=>simp [List.replicate_succ,val,ih]
theorem Cu {l:List Int} (h:ZX l) (hne:l≠[]):pw (l.length - 1)≤val l:=by
 have hl:=h.2 hne
 have hlen:0<l.length:=List.length_pos_iff.2 hne
 have e:=Jm l (l.length - 1) (by omega)
 rw [show l.length - 1+1=l.length by omega,List.take_length] at e
 have h1:=XU (QN h.1 (l.length - 1))
 have h2:=Jw h.1 (l.length - 1)
 have h3:=JW (l.length - 1)
 have h4:pw (l.length - 1)*1≤pw (l.length - 1)*l.getD (l.length - 1) 0:=Int.mul_le_mul_of_nonneg_left (by unfold Q3 at h2; omega) (by omega)
 omega
theorem IF:∀ {a b:List Int},Jo a→Jo b→a.length=b.length→val a=val b→a=b
 | [],[],_,_,_,_=>rfl
 | [],_ :: _,_,_,h,_=>by simp at h
 | _ :: _,[],_,_,h,_=>by simp at h
 | x :: a,y :: b,ha,hb,hl,hv=>by
  obtain ⟨h1,h2⟩:=KM.1 ha
  obtain ⟨h3,h4⟩:=KM.1 hb
  simp only [val] at hv
  unfold Q3 at h1 h3
  have hxy:x=y:=by omega
  have hv':val a=val b:=by omega
  rw [hxy,IF h2 h4 (by simpa using hl) hv']
theorem YM {a b:List Int} (ha:ZX a) (hb:ZX b) (h:val a=val b):a=b:=by
 have key:∀ {a b:List Int},ZX a→ZX b→val a=val b→a.length≤b.length→a=b:=by
  intro a b ha hb h hl
  by_cases e:a.length=b.length
  ·exact IF ha.1 hb.1 e h
  ·exfalso
   have hne:b≠[]:=fun e'=>by
    have:b.length=0:=by rw [e']; rfl
    omega
   have h1:=Cu hb hne
   have h2:=Zj ha.1
   have h3:=D6 (show a.length≤b.length - 1 by omega)
   omega
 rcases Nat.le_total a.length b.length with hl | hl
 ·exact key ha hb h hl
 ·exact (key hb ha h.symm hl).symm
def Xb (n:Nat):List Int:=if h:n=0 then [] else ((n % 1000000000:Nat):Int) :: Xb (n / 1000000000)
termination_by n
decreasing_by omega
theorem Q2:Xb 0=[]:=by rw [Xb]; simp
theorem AU {n:Nat} (h:n≠0):Xb n=((n % 1000000000:Nat):Int) :: Xb (n / 1000000000):=by rw [Xb]; simp [h]
theorem XA (n:Nat):val (Xb n)=n:=by
 induction n using Nat.strongRecOn with
 | ind n ih =>
  by_cases h:n=0
  ·subst h; rw [Q2]; rfl
  ·rw [AU h]
   simp only [val]
   rw [ih (n / 1000000000) (by omega)]; omega
theorem XI (n:Nat):Jo (Xb n):=by
 induction n using Nat.strongRecOn with
 | ind n ih =>
  by_cases h:n=0
  ·subst h; rw [Q2]; exact C7
  ·rw [AU h]
   exact KM.2 ⟨⟨by omega,by omega⟩,ih _ (by omega)⟩
theorem Ip {n:Nat} (h:n≠0):Xb n≠[]:=by rw [AU h]; simp
theorem Oy {n:Nat}:Xb n=[]↔n=0:=⟨fun h=>Classical.byContradiction fun e=>Ip e h,fun h=>by rw [h]; exact Q2⟩
theorem XP (n:Nat):ZX (Xb n):=by
 refine ⟨XI n,?_⟩
 induction n using Nat.strongRecOn with
 | ind n ih =>
  intro hne
  by_cases h:n=0
  ·subst h; exact absurd Q2 hne
  ·rw [AU h]
   by_cases h2:n / 1000000000=0
   ·rw [h2,Q2]; simp; omega
   ·have hn:=Ip h2
    have:=ih (n / 1000000000) (by omega) hn
    obtain ⟨k,hk⟩:∃ k,(Xb (n / 1000000000)).length=k+1:=⟨(Xb (n / 1000000000)).length - 1,by have:=List.length_pos_iff.2 hn; omega⟩
    simp only [List.length_cons,hk,Nat.add_sub_cancel] at this ⊢
    simpa using this
theorem AH {l:List Int} (h:ZX l):Xb (val l).toNat=l:=by
 refine YM (XP _) h ?_
 rw [XA]
 have:=XU h.1
 omega
theorem oX {l:List Int} (h:Jo l):((val l).toNat:Int)=val l:=Int.toNat_of_nonneg (XU h)
def A8 (l:List Int):Nat→Nat
 | 0=>0
 | n+1=>if l.getD n 0=0 then A8 l n else n+1
theorem WA (l:List Int):∀ n,A8 l n≤n
 | 0=>Nat.le_refl _
 | n+1=>by
  simp only [A8]
  split
  ·exact Nat.le_succ_of_le (WA l n)
  ·exact Nat.le_refl _
theorem T4 {l:List Int}:∀ n,n≤l.length→val (l.take (A8 l n))=val (l.take n)
 | 0,_=>rfl
 | n+1,h=>by
  simp only [A8]
  split
  ·rename_i e
   rw [T4 n (by omega),Jm l n h,e]; simp
  ·rfl
theorem Vc {l:List Int} (h:Jo l) (n:Nat) (hn:n≤l.length):ZX (l.take (A8 l n)):=by
 refine ⟨QN h _,fun hne=>?_⟩
 induction n with
 | zero=>simp [A8] at hne
 | succ n ih =>
  simp only [A8] at hne ⊢
  split
  ·rename_i e; rw [if_pos e] at hne; exact ih (by omega) hne
  ·rename_i e
   rw [List.length_take,Nat.min_eq_left hn,Nat.add_sub_cancel,Bq l 0 n (n+1) (by omega)]
   exact e
theorem cG {l:List Int} (h:Jo l):l.take (A8 l l.length)=Xb (val l).toNat:=by
 have h1:=Vc h l.length (Nat.le_refl _)
 rw [← AH h1,T4 _ (Nat.le_refl _),List.take_length]
def sm (f:Nat→Int):Nat→Int
 | 0=>0
 | n+1=>sm f n+pw n*f n
def AP (f:Nat→Int) (n:Nat):List Int:=(List.range n).map f
theorem Qa (f:Nat→Int) (n:Nat):(AP f n).length=n:=by simp [AP]
theorem E8 (f:Nat→Int) (n:Nat):AP f (n+1)=AP f n ++ [f n]:=by simp [AP,List.range_succ]
theorem Cq (f:Nat→Int) (n i:Nat) (h:i<n):(AP f n).getD i 0=f i:=by simp [AP,List.getD_eq_getElem?_getD,h]
theorem KD {f f':Nat→Int} {n:Nat} (h:∀ k,k<n→f k=f' k):AP f n=AP f' n:=List.map_congr_left fun k hk=>h k (by simpa using hk)
theorem GH (f:Nat→Int):∀ n,val (AP f n)=sm f n
 | 0=>rfl
 | n+1=>by rw [E8,E9,Qa,GH f n]; rfl
theorem Wt (l:List Int):∀ n,n≤l.length→sm (fun i=>l.getD i 0) n=val (l.take n)
 | 0,_=>rfl
 | n+1,h=>by rw [Jm l n h,← Wt l n (by omega)]; rfl
theorem sM (l:List Int) (n:Nat) (h:l.length≤n):sm (fun i=>l.getD i 0) n=val l:=by
 obtain ⟨k,rfl⟩:=Nat.exists_eq_add_of_le h
 induction k with
 | zero=>rw [Nat.add_zero,Wt l _ (Nat.le_refl _),List.take_length]
 | succ k ih =>
  rw [show l.length+(k+1)=(l.length+k)+1 by omega]
  simp only [sm]
  rw [ih (by omega)]
  have:l.getD (l.length+k) 0=0:=by rw [List.getD_eq_getElem?_getD,List.getElem?_eq_none (by omega)]; rfl
  rw [this]; simp
theorem CU {f:Nat→Int} {n:Nat} (h:∀ i,i<n→Q3 (f i)):Jo (AP f n):=by
 refine Na fun i hi=>?_
 rw [Qa] at hi
 rw [Cq _ _ _ hi]; exact h i hi
def Qh (a b:Nat→Int):Nat→Int
 | 0=>0
 | i+1=>if 1000000000≤a i+b i+Qh a b i then 1 else 0
def Ak (a b:Nat→Int) (i:Nat):Int:=if 1000000000≤a i+b i+Qh a b i then a i+b i+Qh a b i - 1000000000 else a i+b i+Qh a b i
theorem Dv (a b:Nat→Int):∀ i,Qh a b i=0∨Qh a b i=1
 | 0=>.inl rfl
 | i+1=>by simp only [Qh]; split <;> simp
theorem Po {a b:Nat→Int} {i:Nat} (ha:Q3 (a i)) (hb:Q3 (b i)):Q3 (Ak a b i):=by
 have:=Dv a b i
 unfold Q3 at *
 unfold Ak
 split <;> omega
theorem Oc (a b:Nat→Int):∀ n,sm (Ak a b) n+pw n*Qh a b n=sm a n+sm b n
 | 0=>by simp [sm,Qh]
 | n+1=>by
  have ih:=Oc a b n
  have e:Ak a b n+1000000000*Qh a b (n+1)=a n+b n+Qh a b n:=by
   simp only [Ak,Qh]
   split <;> omega
  simp only [sm,pw]
  have:pw n*(Ak a b n+1000000000*Qh a b (n+1))=pw n*(a n+b n+Qh a b n):=by rw [e]
  grind
def JU (a b:Nat→Int):Nat→Int
 | 0=>0
 | i+1=>if a i - b i - JU a b i<0 then 1 else 0
def Bb (a b:Nat→Int) (i:Nat):Int:=if a i - b i - JU a b i<0 then a i - b i - JU a b i+1000000000 else a i - b i - JU a b i
theorem GB (a b:Nat→Int):∀ i,JU a b i=0∨JU a b i=1
 | 0=>.inl rfl
 | i+1=>by simp only [JU]; split <;> simp
theorem SW {a b:Nat→Int} {i:Nat} (ha:Q3 (a i)) (hb:Q3 (b i)):Q3 (Bb a b i):=by
 have:=GB a b i
 unfold Q3 at *
 unfold Bb
 split <;> omega
theorem P9 (a b:Nat→Int):∀ n,sm (Bb a b) n - pw n*JU a b n=sm a n - sm b n
 | 0=>by simp [sm,JU]
 | n+1=>by
  have ih:=P9 a b n
  have e:Bb a b n - 1000000000*JU a b (n+1)=a n - b n - JU a b n:=by
   simp only [Bb,JU]
   split <;> omega
  simp only [sm,pw]
  have:pw n*(Bb a b n - 1000000000*JU a b (n+1))=pw n*(a n - b n - JU a b n):=by rw [e]
  grind
theorem pY {f:Nat→Int}:∀ {n:Nat},(∀ i,i<n→Q3 (f i))→0≤sm f n∧sm f n<pw n
 | 0,_=>by simp [sm,pw]
 | n+1,h=>by
  obtain ⟨h1,h2⟩:=pY (n:=n) fun i hi=>h i (by omega)
  have h3:=h n (by omega)
  have h4:=JW n
  unfold Q3 at h3
  have h5:pw n*f n≤pw n*999999999:=Int.mul_le_mul_of_nonneg_left (by omega) (by omega)
  have h6:0≤pw n*f n:=Int.mul_nonneg (by omega) h3.1
  simp only [sm,pw]; omega
theorem Wv {a b:Nat→Int} {n:Nat} (ha:∀ i,i<n→Q3 (a i)) (hb:∀ i,i<n→Q3 (b i)) (h:sm b n≤sm a n):JU a b n=0:=by
 have h1:=P9 a b n
 have h2:=(pY (f:=Bb a b) (n:=n) fun i hi=>SW (ha i hi) (hb i hi)).2
 rcases GB a b n with e | e
 ·exact e
 ·rw [e] at h1; omega
theorem QF (l:List Int) (i j:Nat) (x:Int) (hi:i<l.length):(l.set i x).getD j 0=if j=i then x else l.getD j 0:=by
 simp only [List.getD_eq_getElem?_getD,List.getElem?_set]
 by_cases h:i=j
 ·subst h; simp [hi]
 ·simp [h,Ne.symm h]
theorem Cg:∀ (l:List Int) (i:Nat) (x:Int),i<l.length→val (l.set i x)=val l+pw i*(x - l.getD i 0)
 | [],_,_,h=>by simp at h
 | d :: l,0,x,_=>by simp [val,pw]; omega
 | d :: l,i+1,x,h=>by
  have ih:=Cg l i x (by simpa using h)
  simp only [List.set_cons_succ,val,pw,List.getD_cons_succ]
  rw [ih,Int.mul_add,Int.mul_assoc]; omega
theorem Ej {l:List Int} (h:Jo l) (i:Nat) {x:Int} (hx:Q3 x):Jo (l.set i x):=fun d hd=>by
 rcases List.mem_or_eq_of_mem_set hd with e | e
 ·exact h d e
 ·rw [e]; exact hx
theorem BA {x y:Int} (hx:Q3 x) (hy:Q3 y):0≤x*y∧x*y≤999999998000000001:=by
 unfold Q3 at hx hy
 have h1:0≤x*y:=Int.mul_nonneg hx.1 hy.1
 have h2:x*y≤999999999*y:=Int.mul_le_mul_of_nonneg_right (by omega) hy.1
 omega
theorem Kn (l:List Int) (i:Nat) (h:i<l.length):val (l.drop i)=l.getD i 0+1000000000*val (l.drop (i+1)):=by
 rw [List.drop_eq_getElem_cons h]
 simp only [val]
 rw [List.getD_eq_getElem?_getD,List.getElem?_eq_getElem h]; rfl
theorem Jv (l:List Int) (i:Nat) (h:i≤l.length):val l=val (l.take i)+pw i*val (l.drop i):=by
 conv=>lhs; rw [← List.take_append_drop i l]
 rw [Pg,List.length_take,Nat.min_eq_left h]
def Kt (a:Nat→Int) (k:Int):Nat→Int
 | 0=>0
 | i+1=>(a i*k+Kt a k i) / 1000000000
def Fp (a:Nat→Int) (k:Int) (i:Nat):Int:=(a i*k+Kt a k i) % 1000000000
theorem CD {a:Nat→Int} {k:Int} (ha:∀ i,Q3 (a i)) (hk:Q3 k):∀ i,Q3 (Kt a k i)
 | 0=>⟨by simp [Kt],by simp [Kt]⟩
 | i+1=>by
  have h1:=CD ha hk i
  have h2:=BA (ha i) hk
  simp only [Kt]; unfold Q3 at *; omega
theorem iE {a:Nat→Int} {k:Int} (ha:∀ i,Q3 (a i)) (hk:Q3 k) (i:Nat):Q3 (Fp a k i):=by
 unfold Fp Q3; omega
theorem W3 (a:Nat→Int) (k:Int):∀ n,sm (Fp a k) n+pw n*Kt a k n=sm a n*k
 | 0=>by simp [sm,Kt]
 | n+1=>by
  have ih:=W3 a k n
  have e:Fp a k n+1000000000*Kt a k (n+1)=a n*k+Kt a k n:=by
   simp only [Fp,Kt]; omega
  have e2:pw n*(Fp a k n+1000000000*Kt a k (n+1))=pw n*(a n*k+Kt a k n):=by rw [e]
  simp only [sm,pw]
  grind
def K0 (a:List Int) (b:Int) (i:Nat):Int:=val (a.drop i) % b
def A5 (a:List Int) (b:Int) (i:Nat):Int:=(K0 a b (i+1)*1000000000+a.getD i 0) / b
theorem Hb (a:List Int) (b:Int) (i:Nat) (h:i<a.length):K0 a b i=(K0 a b (i+1)*1000000000+a.getD i 0) % b:=by
 unfold K0
 rw [Kn a i h]
 rw [Int.add_comm,Int.mul_comm,Int.add_emod,Int.mul_emod]
 conv=>rhs; rw [Int.add_emod,Int.mul_emod,Int.emod_emod_of_dvd _ (Int.dvd_refl b)]
theorem LX (a:List Int) (b:Int):K0 a b a.length=0:=by unfold K0; simp [val]
theorem DV {a:List Int} {b:Int} (ha:Jo a) (hb:0<b) (i:Nat):Q3 (A5 a b i):=by
 have h1:=Int.emod_nonneg (val (a.drop (i+1))) (show b≠0 by omega)
 have h2:=Int.emod_lt_of_pos (val (a.drop (i+1))) hb
 have h3:=Jw ha i
 unfold Q3 at *
 unfold A5 K0
 refine ⟨Int.ediv_nonneg (by omega) (by omega),Int.ediv_lt_of_lt_mul hb ?_⟩
 omega
theorem Wk {a:List Int} {b:Int} (hb:0<b):∀ i,i≤a.length→val (a.drop (a.length - i))=b*val ((AP (A5 a b) a.length).drop (a.length - i))+K0 a b (a.length - i)
 | 0,_=>by
  have e:(AP (A5 a b) a.length).drop a.length=[]:=by rw [List.drop_eq_nil_iff,Qa]; exact Nat.le_refl _
  simp [e,LX,val]
 | i+1,h=>by
  have ih:=Wk (a:=a) hb i (by omega)
  obtain ⟨k,hk⟩:∃ k,a.length - (i+1)=k:=⟨_,rfl⟩
  have hk1:a.length - i=k+1:=by omega
  rw [hk1] at ih
  rw [hk]
  rw [Kn a k (by omega),Kn (AP (A5 a b) a.length) k (by rw [Qa]; omega),Cq _ _ _ (show k<a.length by omega)]
  have e:=Int.mul_ediv_add_emod (K0 a b (k+1)*1000000000+a.getD k 0) b
  have e2:=Hb a b k (by omega)
  have e3:A5 a b k=(K0 a b (k+1)*1000000000+a.getD k 0) / b:=rfl
  rw [← e3,← e2] at e
  grind
theorem OV {a:List Int} {b:Int} (hb:0<b):val a=b*val (AP (A5 a b) a.length)+K0 a b 0:=by
 have:=Wk (a:=a) hb a.length (Nat.le_refl _)
 simpa using this
def zA (z:Int):AV:=.agg [.bool (decide (z<0)),X9 (Xb z.natAbs)]
theorem XG (z:Int):Settled (zA z):=Q7 (by simp [X7,X3])
theorem pM:(!(true == false))=true:=Go.Ab.nrfl rfl
theorem pL:(!(false == true))=true:=Go.Ab.nrfl rfl
theorem pN:(!(true == true))=false:=Go.Ab.nrfl rfl
theorem pK:(!(false == false))=false:=Go.Ab.nrfl rfl
set_option linter.defProp false in
def wN:=And.intro pM (And.intro pL (And.intro pN pK))
def Ky (neg:Bool) (v:Int):Int:=if neg=true then -v else v
theorem digs_len_zero {n:Nat}:(Xb n).length=0↔n=0:=by rw [List.length_eq_zero_iff,Oy]
theorem pO {l:List Int} (h:Jo l) (neg:Bool):zA (Ky neg (val l))=.agg [.bool (neg && decide (A8 l l.length≠0)),X9 (l.take (A8 l l.length))]:=by
 have h0:=XU h
 have e1:(Ky neg (val l)).natAbs=(val l).toNat:=by unfold Ky; split <;> omega
 have e2:=cG h
 have hle:=WA l l.length
 have e3:A8 l l.length=0↔val l=0:=by
  have h1:(l.take (A8 l l.length)).length=A8 l l.length:=by rw [List.length_take,Nat.min_eq_left hle]
  rw [← h1,e2,digs_len_zero]; omega
 unfold zA
 rw [e1,e2]
 congr 3
 unfold Ky
 have h0':¬ val l<0:=by omega
 cases neg
 ·simp [h0']
 ·have:-val l<0↔¬ A8 l l.length=0:=by rw [e3]; omega
  simp only [if_true,Bool.true_and,decide_eq_decide]
  exact this
theorem Lg {d:Nat} (h0:d≠0) (h:d<1000000000):Xb d=[(d:Int)]:=by
 rw [AU h0,show d / 1000000000=0 by omega,Q2,show d % 1000000000=d by omega]
theorem Ra {d:Nat} (h0:1000000000≤d) (h:d<1000000000000000000):Xb d=[((d % 1000000000:Nat):Int),((d / 1000000000:Nat):Int)]:=by
 rw [AU (by omega),Lg (by omega) (by omega)]
theorem Ue {d:Nat} (h0:1000000000000000000≤d) (h:d<18446744073709551616) :
  Xb d=[((d % 1000000000:Nat):Int),((d / 1000000000 % 1000000000:Nat):Int),((d / 1000000000 / 1000000000:Nat):Int)]:=by
 rw [AU (by omega),Ra (by omega) (by omega)]
def dg (l:List Int):Nat→Int:=fun i=>l.getD i 0
theorem Q9 {l:List Int} (h:Jo l) (i:Nat):Q3 (dg l i):=Jw h i
theorem GX {l:List Int} {i:Nat} (h:l.length≤i):dg l i=0:=by unfold dg; rw [List.getD_eq_getElem?_getD,List.getElem?_eq_none h]; rfl
theorem E5 (l:List Int) (n:Nat) (h:l.length≤n):sm (dg l) n=val l:=sM l n h
def ZJ (a b:List Int) (n:Nat):List Int:=AP (Ak (dg a) (dg b)) n ++ [Qh (dg a) (dg b) n]
theorem NN (a b:List Int) (n:Nat) (ha:a.length≤n) (hb:b.length≤n):val (ZJ a b n)=val a+val b:=by
 unfold ZJ
 rw [E9,Qa,GH,Oc,E5 a n ha,E5 b n hb]
theorem NM {a b:List Int} (ha:Jo a) (hb:Jo b) (n:Nat):Jo (ZJ a b n):=by
 unfold ZJ
 refine Io.2 ⟨CU fun i _=>Po (Q9 ha i) (Q9 hb i),KM.2 ⟨?_,C7⟩⟩
 have:=Dv (dg a) (dg b) n
 unfold Q3; omega
theorem Er (a b:List Int) (n:Nat):(ZJ a b n).length=n+1:=by simp [ZJ,Qa]
def Zf (a b:List Int):List Int:=AP (Bb (dg a) (dg b)) a.length
theorem BG {a b:List Int} (ha:Jo a) (hb:Jo b) (hl:b.length≤a.length) (h:val b≤val a):val (Zf a b)=val a - val b:=by
 unfold Zf
 have e:=Wv (n:=a.length) (fun i _=>Q9 ha i) (fun i _=>Q9 hb i) (by rw [E5 b _ hl,E5 a _ (Nat.le_refl _)]; exact h)
 have e2:=P9 (dg a) (dg b) a.length
 rw [e,E5 a _ (Nat.le_refl _),E5 b _ hl] at e2
 rw [GH]; omega
theorem BF {a b:List Int} (ha:Jo a) (hb:Jo b):Jo (Zf a b):=CU fun i _=>SW (Q9 ha i) (Q9 hb i)
def J7 (a b:List Int) (i:Nat):List Int:=AP (fun j=>if j<i then Bb (dg a) (dg b) j else if j=i then dg a j - JU (dg a) (dg b) i else dg a j) a.length
theorem jF (l:List Int):AP (dg l) l.length=l:=by
 refine List.ext_getElem (by simp [AP]) fun i h1 h2=>?_
 simp [AP,dg,List.getD_eq_getElem?_getD,h2]
theorem RV (a b:List Int):J7 a b 0=a:=by
 unfold J7
 conv=>rhs; rw [← jF a]
 refine KD fun k _=>?_
 rw [if_neg (by omega)]
 split
 ·simp [JU]
 ·rfl
theorem UD (a b:List Int):J7 a b a.length=Zf a b:=KD fun k hk=>by rw [if_pos hk]
theorem B9 (f:Nat→Int) (n k:Nat) (x:Int) (h:k<n):(AP f n).set k x=AP (fun q=>if q=k then x else f q) n:=by
 refine List.ext_getElem (by simp [AP]) fun q h1 h2=>?_
 have hq:q<n:=by simpa [Qa] using h2
 by_cases e:k=q
 ·subst e; simp [AP]
 ·simp [AP,List.getElem_set,e,Ne.symm e]
end
end Go.Ab.N
namespace Go.Ab.N
open Go Go.Ab
open Classical
noncomputable section
theorem XT {l m:List AV} (h:WeakL l m):Weak (.agg l) (.agg m):=fun c v hv=>by
 cases hv with
 | agg vs _ hs hr =>
  have:=(kf h) c (.tuple vs) (.tup vs _ hs hr)
  cases this with
  | tup _ _ hs' hr'=>exact .agg vs m hs' hr'
theorem Qn (f:Nat→AV) (t:Bool):Weak (.sl 0 0 f t) (X9 []):=Ac rfl (Nat.le_refl _) fun j hj=>by exact absurd hj (Nat.not_lt_zero j)
theorem ZR {n:Nat} {L:List AV} {l:List Int} {t:Bool} (hn:n=l.length) (h:L=l.map I):Weak (.sl n n (Xp L) t) (X9 l):=by
 subst hn; subst h; exact kc l t
theorem N6 (L:List AV):∀ n off,off+n=L.length→Qo (Xp L) off 0 n=L.drop off:=by
 have key:∀ n off j,off+j+n=L.length→Qo (Xp L) off j n=L.drop (off+j):=by
  intro n
  induction n with
  | zero=>intro off j h; rw [List.drop_eq_nil_iff.2 (by omega)]; rfl
  | succ n ih =>
   intro off j h
   rw [List.drop_eq_getElem_cons (by omega)]
   simp only [Qo]
   rw [ih off (j+1) (by omega)]
   congr 1
   show L.getD (off+j) .any=_
   rw [List.getD_eq_getElem?_getD,List.getElem?_eq_getElem (by omega)]; rfl
 intro n off h
 rw [key n off 0 (by omega)]; rfl
theorem sG {P:Program} {fn:Func} {str hcs:List Nat} {r:AV} {s:AS} {t u id ver n:Nat} {L:List AV} (hr:fn.results=#[.cell t u]) (hk:BE P u=some (some n)) (hs:s.get t=.ref id ver 0)
  (ho:s.h[id]?=some (.row ver n (Xp L))) (hn:L.length=n) (h:JT s.h (.agg L) r):RetOk (Qr P fn str hcs r) s:=by
 subst hn
 refine BO (v:=.agg L) hr ?_ h
 rw [hs,Ol,hk,F7,ho,F8,sv,N6 L _ _ (by omega)]
 simp [Q6]
theorem Qg {P:Program} {fn:Func} {str hcs:List Nat} {r:AV} {s:AS} {t u id ver n:Nat} {L M:List AV} (hr:fn.results=#[.cell t u]) (hk:BE P u=some (some n)) (hs:s.get t=.ref id ver 0)
  (ho:s.h[id]?=some (.row ver n (Xp L))) (hn:L.length=n) (e:r=.agg M) (hset:Settled r) (h:WeakL L M):RetOk (Qr P fn str hcs r) s:=by
 refine sG hr hk hs ho hn ?_
 subst e
 exact Xs hset (XT h)
end
end Go.Ab.N
namespace Go.Ab.N
open Go Go.RowKit Go.Proofs
theorem vg:BE Tryz.prog 3=some none:=by kernel_rfl
theorem sN:Kq Tryz.prog 3=some 1:=by kernel_rfl
theorem ve:OG Tryz.prog 3=some .i64:=by kernel_rfl
theorem td:Qp Tryz.prog 3=some [.int .i64 0]:=by kernel_rfl
theorem tf:O4 Tryz.prog 3=some (.int .i64 0):=by kernel_rfl
theorem vk:BE Tryz.prog 4=some none:=by kernel_rfl
theorem sP:Kq Tryz.prog 4=some 1:=by kernel_rfl
theorem r7:L5 Tryz.prog 4=true:=by kernel_rfl
theorem te:Qp Tryz.prog 4=some [.bool false]:=by kernel_rfl
theorem uq:BE Tryz.prog 22=some none:=by kernel_rfl
theorem oK:Kq Tryz.prog 22=some 1:=by kernel_rfl
theorem jx:E0 Tryz.prog 22=true:=by kernel_rfl
theorem pG:AJ Tryz.prog 22=some (3,1,8):=by kernel_rfl
theorem ur:BE Tryz.prog 23=some none:=by kernel_rfl
theorem oL:Kq Tryz.prog 23=some 1:=by kernel_rfl
theorem jy:E0 Tryz.prog 23=true:=by kernel_rfl
theorem u9:AJ Tryz.prog 23=some (110,2,16):=by kernel_rfl
theorem ut:BE Tryz.prog 24=some none:=by kernel_rfl
theorem oM:Kq Tryz.prog 24=some 1:=by kernel_rfl
theorem jz:E0 Tryz.prog 24=true:=by kernel_rfl
theorem ua:AJ Tryz.prog 24=some (4,1,1):=by kernel_rfl
theorem XQ:BE Tryz.prog 26=some (some 2):=by kernel_rfl
theorem oN:Kq Tryz.prog 26=some 2:=by kernel_rfl
theorem mE:BU Tryz.prog 26 0=some (0,1,none):=by kernel_rfl
theorem lF:Qj Tryz.prog 26 0=some (0,1):=by kernel_rfl
theorem mF:BU Tryz.prog 26 1=some (1,1,none):=by kernel_rfl
theorem lG:Qj Tryz.prog 26 1=some (1,1):=by kernel_rfl
theorem tO:ZV Tryz.prog 26=true:=by kernel_rfl
theorem p9:Qp Tryz.prog 26=some [.bool false,.sl 0 0 (fun _=>.any) true]:=by kernel_rfl
theorem Qc:BE Tryz.prog 28=some (some 4):=by kernel_rfl
theorem oO:Kq Tryz.prog 28=some 4:=by kernel_rfl
theorem mG:BU Tryz.prog 28 0=some (0,2,some 2):=by kernel_rfl
theorem lH:Qj Tryz.prog 28 0=some (0,2):=by kernel_rfl
theorem mH:BU Tryz.prog 28 1=some (2,2,some 2):=by kernel_rfl
theorem lI:Qj Tryz.prog 28 1=some (2,2):=by kernel_rfl
theorem tP:ZV Tryz.prog 28=true:=by kernel_rfl
theorem pc:Qp Tryz.prog 28=some [.bool false,.sl 0 0 (fun _=>.any) true,.bool false,.sl 0 0 (fun _=>.any) true]:=by kernel_rfl
theorem Nt:BE Tryz.prog 30=some (some 25):=by kernel_rfl
theorem oP:Kq Tryz.prog 30=some 25:=by kernel_rfl
theorem mI:BU Tryz.prog 30 0=some (0,1,none):=by kernel_rfl
theorem lJ:Qj Tryz.prog 30 0=some (0,1):=by kernel_rfl
theorem mJ:BU Tryz.prog 30 1=some (1,1,none):=by kernel_rfl
theorem lK:Qj Tryz.prog 30 1=some (1,1):=by kernel_rfl
theorem mK:BU Tryz.prog 30 2=some (2,1,none):=by kernel_rfl
theorem lM:Qj Tryz.prog 30 2=some (2,1):=by kernel_rfl
theorem mL:BU Tryz.prog 30 3=some (3,1,none):=by kernel_rfl
theorem lN:Qj Tryz.prog 30 3=some (3,1):=by kernel_rfl
theorem mM:BU Tryz.prog 30 4=some (4,1,none):=by kernel_rfl
theorem lO:Qj Tryz.prog 30 4=some (4,1):=by kernel_rfl
theorem mN:BU Tryz.prog 30 5=some (5,4,some 4):=by kernel_rfl
theorem lP:Qj Tryz.prog 30 5=some (5,4):=by kernel_rfl
theorem mO:BU Tryz.prog 30 6=some (9,4,some 4):=by kernel_rfl
theorem lQ:Qj Tryz.prog 30 6=some (9,4):=by kernel_rfl
theorem mP:BU Tryz.prog 30 7=some (13,4,some 4):=by kernel_rfl
theorem lS:Qj Tryz.prog 30 7=some (13,4):=by kernel_rfl
theorem mQ:BU Tryz.prog 30 8=some (17,4,some 4):=by kernel_rfl
theorem lU:Qj Tryz.prog 30 8=some (17,4):=by kernel_rfl
theorem mR:BU Tryz.prog 30 9=some (21,4,some 4):=by kernel_rfl
theorem lV:Qj Tryz.prog 30 9=some (21,4):=by kernel_rfl
theorem tQ:ZV Tryz.prog 30=true:=by kernel_rfl
theorem pf:Qp Tryz.prog 30=some [.int .i64 0,.int .i64 0,.sl 0 0 (fun _=>.any) true,.sl 0 0 (fun _=>.any) true,.sl 0 0 (fun _=>.any) true,.bool false,.sl 0 0 (fun _=>.any) true,.bool false,.sl 0 0 (fun _=>.any) true,.bool false,.sl 0 0 (fun _=>.any) true,.bool false,.sl 0 0 (fun _=>.any) true,.bool false,.sl 0 0 (fun _=>.any) true,.bool false,.sl 0 0 (fun _=>.any) true,.bool false,.sl 0 0 (fun _=>.any) true,.bool false,.sl 0 0 (fun _=>.any) true,.bool false,.sl 0 0 (fun _=>.any) true,.bool false,.sl 0 0 (fun _=>.any) true]:=by kernel_rfl
theorem ub:AJ Tryz.prog 35=some (28,4,64):=by kernel_rfl
theorem DL:BE Tryz.prog 48=some (some 8):=by kernel_rfl
theorem oQ:Kq Tryz.prog 48=some 8:=by kernel_rfl
theorem mS:BU Tryz.prog 48 0=some (0,4,some 4):=by kernel_rfl
theorem lX:Qj Tryz.prog 48 0=some (0,4):=by kernel_rfl
theorem mT:BU Tryz.prog 48 1=some (4,4,some 4):=by kernel_rfl
theorem lY:Qj Tryz.prog 48 1=some (4,4):=by kernel_rfl
theorem tR:ZV Tryz.prog 48=true:=by kernel_rfl
theorem pg:Qp Tryz.prog 48=some [.bool false,.sl 0 0 (fun _=>.any) true,.bool false,.sl 0 0 (fun _=>.any) true,.bool false,.sl 0 0 (fun _=>.any) true,.bool false,.sl 0 0 (fun _=>.any) true]:=by kernel_rfl
theorem Jp:BE Tryz.prog 50=some (some 8):=by kernel_rfl
theorem oR:Kq Tryz.prog 50=some 8:=by kernel_rfl
theorem mU:BU Tryz.prog 50 0=some (0,4,some 4):=by kernel_rfl
theorem lZ:Qj Tryz.prog 50 0=some (0,4):=by kernel_rfl
theorem mV:BU Tryz.prog 50 1=some (4,4,some 4):=by kernel_rfl
theorem m7:Qj Tryz.prog 50 1=some (4,4):=by kernel_rfl
theorem tS:ZV Tryz.prog 50=true:=by kernel_rfl
theorem ph:Qp Tryz.prog 50=some [.bool false,.sl 0 0 (fun _=>.any) true,.bool false,.sl 0 0 (fun _=>.any) true,.bool false,.sl 0 0 (fun _=>.any) true,.bool false,.sl 0 0 (fun _=>.any) true]:=by kernel_rfl
theorem Nu:BE Tryz.prog 52=some (some 29):=by kernel_rfl
theorem oS:Kq Tryz.prog 52=some 29:=by kernel_rfl
theorem mW:BU Tryz.prog 52 0=some (0,1,none):=by kernel_rfl
theorem mX:BU Tryz.prog 52 1=some (1,1,none):=by kernel_rfl
theorem m8:Qj Tryz.prog 52 1=some (1,1):=by kernel_rfl
theorem mY:BU Tryz.prog 52 2=some (2,1,none):=by kernel_rfl
theorem m9:Qj Tryz.prog 52 2=some (2,1):=by kernel_rfl
theorem mZ:BU Tryz.prog 52 3=some (3,1,none):=by kernel_rfl
theorem ma:Qj Tryz.prog 52 3=some (3,1):=by kernel_rfl
theorem nc:BU Tryz.prog 52 4=some (4,1,none):=by kernel_rfl
theorem mb:Qj Tryz.prog 52 4=some (4,1):=by kernel_rfl
theorem nd:BU Tryz.prog 52 5=some (5,8,some 8):=by kernel_rfl
theorem mc:Qj Tryz.prog 52 5=some (5,8):=by kernel_rfl
theorem nk:BU Tryz.prog 52 6=some (13,8,some 8):=by kernel_rfl
theorem nm:BU Tryz.prog 52 7=some (21,8,some 8):=by kernel_rfl
theorem tT:ZV Tryz.prog 52=true:=by kernel_rfl
theorem pi:Qp Tryz.prog 52=some [.int .i64 0,.int .i64 0,.int .i64 0,.int .i64 0,.int .i64 0,.bool false,.sl 0 0 (fun _=>.any) true,.bool false,.sl 0 0 (fun _=>.any) true,.bool false,.sl 0 0 (fun _=>.any) true,.bool false,.sl 0 0 (fun _=>.any) true,.bool false,.sl 0 0 (fun _=>.any) true,.bool false,.sl 0 0 (fun _=>.any) true,.bool false,.sl 0 0 (fun _=>.any) true,.bool false,.sl 0 0 (fun _=>.any) true,.bool false,.sl 0 0 (fun _=>.any) true,.bool false,.sl 0 0 (fun _=>.any) true,.bool false,.sl 0 0 (fun _=>.any) true,.bool false,.sl 0 0 (fun _=>.any) true]:=by kernel_rfl
theorem VY:BE Tryz.prog 54=some (some 79):=by kernel_rfl
theorem oT:Kq Tryz.prog 54=some 79:=by kernel_rfl
theorem nn:BU Tryz.prog 54 0=some (0,25,some 25):=by kernel_rfl
theorem md:Qj Tryz.prog 54 0=some (0,25):=by kernel_rfl
theorem np:BU Tryz.prog 54 1=some (25,25,some 25):=by kernel_rfl
theorem me:Qj Tryz.prog 54 1=some (25,25):=by kernel_rfl
theorem nq:BU Tryz.prog 54 2=some (50,29,some 29):=by kernel_rfl
theorem tU:ZV Tryz.prog 54=true:=by kernel_rfl
theorem pj:Qp Tryz.prog 54=some [.int .i64 0,.int .i64 0,.sl 0 0 (fun _=>.any) true,.sl 0 0 (fun _=>.any) true,.sl 0 0 (fun _=>.any) true,.bool false,.sl 0 0 (fun _=>.any) true,.bool false,.sl 0 0 (fun _=>.any) true,.bool false,.sl 0 0 (fun _=>.any) true,.bool false,.sl 0 0 (fun _=>.any) true,.bool false,.sl 0 0 (fun _=>.any) true,.bool false,.sl 0 0 (fun _=>.any) true,.bool false,.sl 0 0 (fun _=>.any) true,.bool false,.sl 0 0 (fun _=>.any) true,.bool false,.sl 0 0 (fun _=>.any) true,.bool false,.sl 0 0 (fun _=>.any) true,.int .i64 0,.int .i64 0,.sl 0 0 (fun _=>.any) true,.sl 0 0 (fun _=>.any) true,.sl 0 0 (fun _=>.any) true,.bool false,.sl 0 0 (fun _=>.any) true,.bool false,.sl 0 0 (fun _=>.any) true,.bool false,.sl 0 0 (fun _=>.any) true,.bool false,.sl 0 0 (fun _=>.any) true,.bool false,.sl 0 0 (fun _=>.any) true,.bool false,.sl 0 0 (fun _=>.any) true,.bool false,.sl 0 0 (fun _=>.any) true,.bool false,.sl 0 0 (fun _=>.any) true,.bool false,.sl 0 0 (fun _=>.any) true,.bool false,.sl 0 0 (fun _=>.any) true,.int .i64 0,.int .i64 0,.int .i64 0,.int .i64 0,.int .i64 0,.bool false,.sl 0 0 (fun _=>.any) true,.bool false,.sl 0 0 (fun _=>.any) true,.bool false,.sl 0 0 (fun _=>.any) true,.bool false,.sl 0 0 (fun _=>.any) true,.bool false,.sl 0 0 (fun _=>.any) true,.bool false,.sl 0 0 (fun _=>.any) true,.bool false,.sl 0 0 (fun _=>.any) true,.bool false,.sl 0 0 (fun _=>.any) true,.bool false,.sl 0 0 (fun _=>.any) true,.bool false,.sl 0 0 (fun _=>.any) true,.bool false,.sl 0 0 (fun _=>.any) true,.bool false,.sl 0 0 (fun _=>.any) true]:=by kernel_rfl
theorem uu:BE Tryz.prog 57=some none:=by kernel_rfl
theorem oU:Kq Tryz.prog 57=some 1:=by kernel_rfl
theorem uc:AJ Tryz.prog 57=some (52,29,424):=by kernel_rfl
theorem pk:Qp Tryz.prog 57=some [.sl 0 0 (fun _=>.any) true]:=by kernel_rfl
theorem uv:BE Tryz.prog 81=some none:=by kernel_rfl
theorem oV:Kq Tryz.prog 81=some 1:=by kernel_rfl
theorem ud:AJ Tryz.prog 81=some (50,8,128):=by kernel_rfl
theorem pm:Qp Tryz.prog 81=some [.sl 0 0 (fun _=>.any) true]:=by kernel_rfl
theorem uw:BE Tryz.prog 84=some (some 16):=by kernel_rfl
theorem oW:Kq Tryz.prog 84=some 16:=by kernel_rfl
theorem nu:BU Tryz.prog 84 0=some (0,8,some 8):=by kernel_rfl
theorem mf:Qj Tryz.prog 84 0=some (0,8):=by kernel_rfl
theorem nv:BU Tryz.prog 84 1=some (8,8,some 8):=by kernel_rfl
theorem mg:Qj Tryz.prog 84 1=some (8,8):=by kernel_rfl
theorem tV:ZV Tryz.prog 84=true:=by kernel_rfl
theorem po:Qp Tryz.prog 84=some [.bool false,.sl 0 0 (fun _=>.any) true,.bool false,.sl 0 0 (fun _=>.any) true,.bool false,.sl 0 0 (fun _=>.any) true,.bool false,.sl 0 0 (fun _=>.any) true,.bool false,.sl 0 0 (fun _=>.any) true,.bool false,.sl 0 0 (fun _=>.any) true,.bool false,.sl 0 0 (fun _=>.any) true,.bool false,.sl 0 0 (fun _=>.any) true]:=by kernel_rfl
theorem ie:BE Tryz.prog 110=some (some 2):=by kernel_rfl
theorem jK:Kq Tryz.prog 110=some 2:=by kernel_rfl
theorem gF:BU Tryz.prog 110 0=some (0,1,none):=by kernel_rfl
theorem eU:Qj Tryz.prog 110 0=some (0,1):=by kernel_rfl
theorem gG:BU Tryz.prog 110 1=some (1,1,none):=by kernel_rfl
theorem eW:Qj Tryz.prog 110 1=some (1,1):=by kernel_rfl
theorem qV:ZV Tryz.prog 110=true:=by kernel_rfl
theorem oz:V4 Tryz.prog 110 2=true:=by kernel_rfl
theorem kl:Qp Tryz.prog 110=some [.int .i64 0,.int .i64 0]:=by kernel_rfl
theorem ig:BE Tryz.prog 114=some (some 20):=by kernel_rfl
theorem jL:Kq Tryz.prog 114=some 20:=by kernel_rfl
theorem rn:AJ Tryz.prog 114=none:=by kernel_rfl
theorem eX:Qj Tryz.prog 114 0=some (0,4):=by kernel_rfl
theorem eY:Qj Tryz.prog 114 1=some (4,4):=by kernel_rfl
theorem eZ:Qj Tryz.prog 114 2=some (8,4):=by kernel_rfl
theorem f9:Qj Tryz.prog 114 3=some (12,4):=by kernel_rfl
theorem fe:Qj Tryz.prog 114 4=some (16,4):=by kernel_rfl
theorem qW:ZV Tryz.prog 114=true:=by kernel_rfl
theorem qL:TV Tryz.prog 114=some (5,4,some 4):=by kernel_rfl
theorem ko:Qp Tryz.prog 114=some [.bool false,.sl 0 0 (fun _=>.any) true,.bool false,.sl 0 0 (fun _=>.any) true,.bool false,.sl 0 0 (fun _=>.any) true,.bool false,.sl 0 0 (fun _=>.any) true,.bool false,.sl 0 0 (fun _=>.any) true,.bool false,.sl 0 0 (fun _=>.any) true,.bool false,.sl 0 0 (fun _=>.any) true,.bool false,.sl 0 0 (fun _=>.any) true,.bool false,.sl 0 0 (fun _=>.any) true,.bool false,.sl 0 0 (fun _=>.any) true]:=by kernel_rfl
theorem rO:BE Tryz.prog 120=some none:=by kernel_rfl
theorem jM:Kq Tryz.prog 120=some 1:=by kernel_rfl
theorem rp:AJ Tryz.prog 120=some (183,3,24):=by kernel_rfl
theorem kp:Qp Tryz.prog 120=some [.sl 0 0 (fun _=>.any) true]:=by kernel_rfl
theorem rP:BE Tryz.prog 122=some (some 2):=by kernel_rfl
theorem jN:Kq Tryz.prog 122=some 2:=by kernel_rfl
theorem rq:AJ Tryz.prog 122=none:=by kernel_rfl
theorem ff:Qj Tryz.prog 122 0=some (0,1):=by kernel_rfl
theorem fg:Qj Tryz.prog 122 1=some (1,1):=by kernel_rfl
theorem qX:ZV Tryz.prog 122=true:=by kernel_rfl
theorem qM:TV Tryz.prog 122=some (2,1,none):=by kernel_rfl
theorem kq:Qp Tryz.prog 122=some [.int .i64 0,.int .i64 0]:=by kernel_rfl
theorem rr:AJ Tryz.prog 123=some (122,2,16):=by kernel_rfl
theorem rQ:BE Tryz.prog 125=some (some 3):=by kernel_rfl
theorem fh:Qj Tryz.prog 125 0=some (0,1):=by kernel_rfl
theorem fi:Qj Tryz.prog 125 1=some (1,1):=by kernel_rfl
theorem fj:Qj Tryz.prog 125 2=some (2,1):=by kernel_rfl
theorem qY:ZV Tryz.prog 125=true:=by kernel_rfl
theorem oA:V4 Tryz.prog 125 3=true:=by kernel_rfl
theorem kr:Qp Tryz.prog 125=some [.int .i64 0,.int .i64 0,.int .i64 0]:=by kernel_rfl
theorem rs:AJ Tryz.prog 126=some (125,3,24):=by kernel_rfl
theorem rt:AJ Tryz.prog 148=some (48,8,128):=by kernel_rfl
theorem rR:BE Tryz.prog 181=some none:=by kernel_rfl
theorem jO:Kq Tryz.prog 181=some 1:=by kernel_rfl
theorem nE:LA Tryz.prog 181=some (3,3):=by kernel_rfl
theorem ku:Qp Tryz.prog 181=some [.nilmap]:=by kernel_rfl
theorem gH:BU Tryz.prog 183 0=some (0,1,none):=by kernel_rfl
theorem fl:Qj Tryz.prog 183 0=some (0,1):=by kernel_rfl
theorem gI:BU Tryz.prog 183 1=some (1,1,none):=by kernel_rfl
theorem fm:Qj Tryz.prog 183 1=some (1,1):=by kernel_rfl
theorem gJ:BU Tryz.prog 183 2=some (2,1,none):=by kernel_rfl
theorem fo:Qj Tryz.prog 183 2=some (2,1):=by kernel_rfl
theorem qZ:ZV Tryz.prog 183=true:=by kernel_rfl
theorem kv:Qp Tryz.prog 183=some [.int .i64 0,.int .i64 0,.int .i64 0]:=by kernel_rfl
theorem rJ:OG Tryz.prog 187=some .u64:=by kernel_rfl
theorem rS:BE Tryz.prog 191=some none:=by kernel_rfl
theorem ru:AJ Tryz.prog 191=some (81,1,24):=by kernel_rfl
theorem rK:OG Tryz.prog 197=some .u64:=by kernel_rfl
theorem ry:AJ Tryz.prog 241=some (244,3,24):=by kernel_rfl
theorem ii:BE Tryz.prog 244=some (some 3):=by kernel_rfl
theorem jP:Kq Tryz.prog 244=some 3:=by kernel_rfl
theorem rz:AJ Tryz.prog 244=none:=by kernel_rfl
theorem fp:Qj Tryz.prog 244 0=some (0,1):=by kernel_rfl
theorem fq:Qj Tryz.prog 244 1=some (1,1):=by kernel_rfl
theorem ft:Qj Tryz.prog 244 2=some (2,1):=by kernel_rfl
theorem r5:ZV Tryz.prog 244=true:=by kernel_rfl
theorem qN:TV Tryz.prog 244=some (3,1,none):=by kernel_rfl
theorem kw:Qp Tryz.prog 244=some [.int .i64 0,.int .i64 0,.int .i64 0]:=by kernel_rfl
theorem rT:BE Tryz.prog 249=some none:=by kernel_rfl
theorem gK:BU Tryz.prog 252 0=some (0,1,none):=by kernel_rfl
theorem fu:Qj Tryz.prog 252 0=some (0,1):=by kernel_rfl
theorem gL:BU Tryz.prog 252 1=some (1,1,none):=by kernel_rfl
theorem r6:ZV Tryz.prog 252=true:=by kernel_rfl
theorem kx:Qp Tryz.prog 252=some [.sl 0 0 (fun _=>.any) true,.sl 0 0 (fun _=>.any) true]:=by kernel_rfl
theorem OI:BE Tryz.prog 255=some (some 1):=by kernel_rfl
theorem jQ:Kq Tryz.prog 255=some 1:=by kernel_rfl
theorem gM:BU Tryz.prog 255 0=some (0,1,none):=by kernel_rfl
theorem ky:Qp Tryz.prog 255=some [.sl 0 0 (fun _=>.any) true]:=by kernel_rfl
theorem mixed:Tryz.prog.follows .mixedOrders=true:=by kernel_rfl
theorem Fq {f:FuncId} {fn:Func} {body:Code} {args:List AV} {r:AV} (he:Bu Tryz.prog f) (hf:Tryz.prog.funcs[f]?=some fn) (n0:Nat) (hid str hcs:List Nat) (hs:∀ a∈args,Settled a) (h:Run (Qr Tryz.prog fn str hcs r) [.code body] (AS.start n0 hid args [])) (hb:fn.body=some body:=by rfl) (hok:QJ fn.ntmps str hcs body=true:=by kernel_rfl) (hlen:args.length≤fn.ntmps:=by exact Nat.le_of_ble_eq_true rfl):Fn Tryz.prog f args r:=Fn.intro he hf hb mixed n0 hid str hcs hok hlen hs h
set_option linter.defProp false in
def tc:=And.intro @vg <| And.intro @sN <| And.intro @ve <| And.intro @td <| And.intro @tf <| And.intro @vk <| And.intro @sP <| And.intro @r7 <| And.intro @te <| And.intro @uq <| And.intro @oK <| And.intro @jx <| And.intro @pG <| And.intro @ur <| And.intro @oL <| And.intro @jy <| And.intro @u9 <| And.intro @ut <| And.intro @oM <| And.intro @jz <| And.intro @ua <| And.intro @XQ <| And.intro @oN <| And.intro @mE <| And.intro @lF <| And.intro @mF <| And.intro @lG <| And.intro @tO <| And.intro @p9 <| And.intro @Qc <| And.intro @oO <| And.intro @mG <| And.intro @lH <| And.intro @mH <| And.intro @lI <| And.intro @tP <| And.intro @pc <| And.intro @Nt <| And.intro @oP <| And.intro @mI <| And.intro @lJ <| And.intro @mJ <| And.intro @lK <| And.intro @mK <| And.intro @lM <| And.intro @mL <| And.intro @lN <| And.intro @mM <| And.intro @lO <| And.intro @mN <| And.intro @lP <| And.intro @mO <| And.intro @lQ <| And.intro @mP <| And.intro @lS <| And.intro @mQ <| And.intro @lU <| And.intro @mR <| And.intro @lV <| And.intro @tQ <| And.intro @pf <| And.intro @ub <| And.intro @DL <| And.intro @oQ <| And.intro @mS <| And.intro @lX <| And.intro @mT <| And.intro @lY <| And.intro @tR <| And.intro @pg <| And.intro @Jp <| And.intro @oR <| And.intro @mU <| And.intro @lZ <| And.intro @mV <| And.intro @m7 <| And.intro @tS <| And.intro @ph <| And.intro @Nu <| And.intro @oS <| And.intro @mW <| And.intro @mX <| And.intro @m8 <| And.intro @mY <| And.intro @m9 <| And.intro @mZ <| And.intro @ma <| And.intro @nc <| And.intro @mb <| And.intro @nd <| And.intro @mc <| And.intro @nk <| And.intro @nm <| And.intro @tT <| And.intro @pi <| And.intro @VY <| And.intro @oT <| And.intro @nn <| And.intro @md <| And.intro @np <| And.intro @me <| And.intro @nq <| And.intro @tU <| And.intro @pj <| And.intro @uu <| And.intro @oU <| And.intro @uc <| And.intro @pk <| And.intro @uv <| And.intro @oV <| And.intro @ud <| And.intro @pm <| And.intro @uw <| And.intro @oW <| And.intro @nu <| And.intro @mf <| And.intro @nv <| And.intro @mg <| And.intro @tV <| And.intro @po <| And.intro @ie <| And.intro @jK <| And.intro @gF <| And.intro @eU <| And.intro @gG <| And.intro @eW <| And.intro @qV <| And.intro @oz <| And.intro @kl <| And.intro @ig <| And.intro @jL <| And.intro @rn <| And.intro @eX <| And.intro @eY <| And.intro @eZ <| And.intro @f9 <| And.intro @fe <| And.intro @qW <| And.intro @qL <| And.intro @ko <| And.intro @rO <| And.intro @jM <| And.intro @rp <| And.intro @kp <| And.intro @rP <| And.intro @jN <| And.intro @rq <| And.intro @ff <| And.intro @fg <| And.intro @qX <| And.intro @qM <| And.intro @kq <| And.intro @rr <| And.intro @rQ <| And.intro @fh <| And.intro @fi <| And.intro @fj <| And.intro @qY <| And.intro @oA <| And.intro @kr <| And.intro @rs <| And.intro @rt <| And.intro @rR <| And.intro @jO <| And.intro @nE <| And.intro @ku <| And.intro @gH <| And.intro @fl <| And.intro @gI <| And.intro @fm <| And.intro @gJ <| And.intro @fo <| And.intro @qZ <| And.intro @kv <| And.intro @rJ <| And.intro @rS <| And.intro @ru <| And.intro @rK <| And.intro @ry <| And.intro @ii <| And.intro @jP <| And.intro @rz <| And.intro @fp <| And.intro @fq <| And.intro @ft <| And.intro @r5 <| And.intro @qN <| And.intro @kw <| And.intro @rT <| And.intro @gK <| And.intro @fu <| And.intro @gL <| And.intro @r6 <| And.intro @kx <| And.intro @OI <| And.intro @jQ <| And.intro @gM <| @ky
set_option linter.defProp false in
def wA:=And.intro @uN <| And.intro @uM <| And.intro @uL <| And.intro @beq_self_eq_true.{0} <| And.intro @ite_true.{1} <| And.intro @ite_false.{1} <| And.intro @false_implies <| And.intro @true_implies <| And.intro @implies_true.{1} <| And.intro @implies_true.{0} <| And.intro @eq_self.{1} <| And.intro @ne_eq.{1} <| @tc
end Go.Ab.N
namespace Go.Ab.N
open Go Go.RowKit Go.Proofs
noncomputable section
set_option maxRecDepth 10000
set_option maxHeartbeats 2000000
open Classical
def iH (neg:Bool) (l:List Int):AV:=.agg [.bool (neg && decide (A8 l l.length≠0)),X9 (l.take (A8 l l.length))]
theorem K3 (neg:Bool) (l:List Int):Settled (iH neg l):=Q7 (by simp [X7,X3])
theorem uA (neg:Bool) (d:List Int) (hl:d.length<4611686018427387904):Fn Tryz.prog 208 [.bool neg,X9 d] (iH neg d):=by
 refine Fq Tryz.call208 Tryz.func208 6 [] [] [] (by simp [X7,X8,K1,Jk,X3,K2,XG,K3,Jr]) (X0 1000 ?_); simp (config:={ maxSteps:=2000000 }) only [AS.start,↓X2,wA,seval,zA,wN]
 refine Xe (fun n:Nat=>⟨6,[],[.bool neg,X9 d,.any,.any,.ref 0 0 0,I n],[],[.row 0 2 (Xp [.bool false,.sl 0 0 (fun _=>.any) true])]⟩) (fun n=>n≤d.length∧A8 d d.length=A8 d n) (fun n=>n) d.length ⟨by omega,rfl⟩
  (Xa rfl (by simp [zA,wN,Xh,X9,Cy,JG,Qm,I]) (by simp [Xi]) rfl) ?_
 rintro n ⟨hn,ht⟩ next
 cases n with
 | zero =>
  refine X0 1000 ?_
  simp only [Int.lt_irrefl,↓X2,wA,seval,zA,wN]
  refine BO (v:=.agg [.bool false,.sl 0 0 (fun _=>.any) false]) rfl (by simp [AS.get,JF,XQ,rd,Qo,Xp,A1]) ?_
  have e:iH neg d=.agg [.bool false,X9 []]:=by unfold iH; rw [ht]; simp [A8]
  rw [e]
  exact A7 ⟨QH (X3 _) rfl,Xs (X7 _) (Qn _ _),trivial⟩
 | succ n =>
  have e0:(0<((n+1:Nat):Int))=True:=eq_true (by omega)
  have e1:(((n+1:Nat):Int)=0)=False:=eq_false (by omega)
  have w1:IntKind.i64.wrap (((n+1:Nat):Int) - 1)=(n:Int):=by rw [IntKind.wrap_i64]; omega
  have e2:(n<d.length)=True:=eq_true (by omega)
  refine X0 1000 ?_
  simp only [e0,e1,e2,w1,↓X2,wA,seval,zA,wN]
  refine ⟨fun h0=>next n _ ⟨by omega,by rw [ht]; simp only [A8]; rw [if_pos h0]⟩ (by omega) (Xa rfl (by simp [zA,wN,Xh,X9,Cy,JG,Qm,I]) (by simp [Xi]) rfl),fun h0=>⟨by omega,?_⟩⟩
  have ht2:A8 d d.length=n+1:=by rw [ht]; simp only [A8]; rw [if_neg h0]
  have e:iH neg d=.agg [.bool neg,X9 (d.take (n+1))]:=by unfold iH; rw [ht2]; simp
  have hlen:(d.take (n+1)).length=n+1:=by rw [List.length_take]; omega
  rw [e]
  refine BO (v:=.agg [.bool neg,.sl (n+1) (n+1) (fun j=>.int .i64 (d.getD j 0)) false]) rfl ?_ ?_
  ·have m1:min (n+1) d.length=n+1:=by omega
   simp [AS.get,JF,XQ,rd,Qo,Xp,A1,m1]
  ·refine A7 ⟨QH (X3 _) rfl,Xs (X7 _) (GJ _ hlen.symm (by omega) fun j hj=>?_),trivial⟩
   rw [hlen] at hj
   rw [Bq d 0 j (n+1) hj]; rfl
set_option linter.defProp false in
def Kf:=And.intro @X7 (And.intro @X8 (And.intro @K1 (And.intro @Jk (And.intro @X3 (And.intro @K2 (And.intro @XG (And.intro @K3 @Jr)))))))
theorem kj (neg:Bool) {u:Int} (h:0≤u):zA (Ky neg u)=.agg [.bool (neg && decide (u≠0)),X9 (Xb u.toNat)]:=by
 unfold zA
 have e1:(Ky neg u).natAbs=u.toNat:=by unfold Ky; split <;> omega
 rw [e1]
 congr 3
 unfold Ky
 have h0':¬ u<0:=by omega
 cases neg
 ·simp [h0']
 ·have:-u<0↔¬ u=0:=by omega
  simp only [if_true,Bool.true_and,decide_eq_decide,ne_eq]
  exact this
def U (n:Int):AV:=.int .u64 n
theorem Z1 (neg:Bool) (u:Int) (h0:0≤u) (h1:u<18446744073709551616):Fn Tryz.prog 207 [.bool neg,.int .u64 u] (zA (Ky neg u)):=by
 obtain ⟨R,hR⟩:∃ R,R=zA (Ky neg u):=⟨_,rfl⟩
 have eR:=hR.trans (kj neg h0)
 have sR:Settled R:=hR▸XG _
 have b1:u≠0→(neg && decide (u≠0))=neg:=fun h=>by simp [h]
 have w1:IntKind.i64.wrap (u.tmod 1000000000)=u % 1000000000:=by rw [IntKind.wrap_i64,Int.tmod_eq_emod_of_nonneg h0]; omega
 have w2:IntKind.u64.wrap (u.tdiv 1000000000)=u / 1000000000:=by rw [IntKind.wrap_u64,Int.tdiv_eq_ediv_of_nonneg h0]; omega
 have h2:0≤u / 1000000000:=by omega
 have w3:IntKind.i64.wrap (u / 1000000000)=u / 1000000000:=by rw [IntKind.wrap_i64]; omega
 have w4:IntKind.i64.wrap ((u / 1000000000).tmod 1000000000)=u / 1000000000 % 1000000000:=by rw [IntKind.wrap_i64,Int.tmod_eq_emod_of_nonneg h2]; omega
 have w5:IntKind.u64.wrap ((u / 1000000000).tdiv 1000000000)=u / 1000000000 / 1000000000:=by rw [IntKind.wrap_u64,Int.tdiv_eq_ediv_of_nonneg h2]; omega
 have w6:IntKind.i64.wrap (u / 1000000000 / 1000000000)=u / 1000000000 / 1000000000:=by rw [IntKind.wrap_i64]; omega
 rw [← hR]
 refine Fq Tryz.call207 Tryz.func207 6 [] [] [] (by simp [Kf]) (X0 1000 ?_); simp (config:={ maxSteps:=2000000 }) only [AS.start,↓X2,wA,↓reduceIte,reduceIte,reduceCtorEq,Y1,Y2,Y3,Y4,Y5,Y6,Y7,Y8,Y9,YA,zA,wN]
 simp only [w1,w2,w3,w4,w5,w6]
 refine ⟨fun a=>?_,fun a0=>⟨fun a1=>?_,fun a1=>⟨fun a2=>⟨by omega,by omega,?_⟩,fun a2=>⟨by omega,by omega,by omega,by omega,by omega,?_⟩⟩⟩⟩
 ·rw [a,show (neg && decide ((0:Int)≠0))=false by simp,show (0:Int).toNat=0 from rfl,Q2] at eR
  exact Qg rfl XQ rfl rfl rfl eR sR ⟨Weak.rfl' _,Qn _ _,trivial⟩
 ·have w0:IntKind.i64.wrap u=u:=by rw [IntKind.wrap_i64]; omega
  rw [b1 a0,Lg (by omega) (by omega),Int.toNat_of_nonneg h0] at eR
  rw [w0]
  exact Qg rfl XQ rfl rfl rfl eR sR ⟨Weak.rfl' _,ZR rfl rfl,trivial⟩
 ·rw [b1 a0,Ra (by omega) (by omega)] at eR
  have e1:((u.toNat % 1000000000:Nat):Int)=u % 1000000000:=by omega
  have e2:((u.toNat / 1000000000:Nat):Int)=u / 1000000000:=by omega
  rw [e1,e2] at eR
  exact Qg rfl XQ rfl rfl rfl eR sR ⟨Weak.rfl' _,ZR rfl rfl,trivial⟩
 ·rw [b1 a0,Ue (by omega) (by omega)] at eR
  have e1:((u.toNat % 1000000000:Nat):Int)=u % 1000000000:=by omega
  have e2:((u.toNat / 1000000000 % 1000000000:Nat):Int)=u / 1000000000 % 1000000000:=by omega
  have e3:((u.toNat / 1000000000 / 1000000000:Nat):Int)=u / 1000000000 / 1000000000:=by omega
  rw [e1,e2,e3] at eR
  exact Qg rfl XQ rfl rfl rfl eR sR ⟨Weak.rfl' _,ZR rfl rfl,trivial⟩
theorem OJ (z:Int):Fn Tryz.prog 196 [zA z] (zA (-z)):=by
 have e:(-z).natAbs=z.natAbs:=by omega
 have e0:z.natAbs=0↔z=0:=by omega
 have e1:(Xb z.natAbs).length=0↔z=0:=digs_len_zero.trans e0
 refine Fq Tryz.call196 Tryz.func196 3 [] [] [] (by simp [Kf]) (X0 1000 ?_); simp (config:={ maxSteps:=2000000 }) only [AS.start,↓X2,wA,↓reduceIte,reduceIte,reduceCtorEq,Y1,Y2,Y3,Y4,Y5,Y6,Y7,Y8,Y9,YA,zA,wN]
 refine ⟨fun h=>Qg rfl XQ rfl rfl rfl rfl (XG _) ?_,fun h=>Qg rfl XQ rfl rfl rfl rfl (XG _) ?_⟩
 ·rw [e]
  have:decide (-z<0)=decide (0<((Xb z.natAbs).length:Int)):=by rw [decide_eq_decide]; omega
  rw [this]
  exact ⟨Weak.rfl' _,Weak.rfl' _,trivial⟩
 ·rw [e,show decide (-z<0)=false from decide_eq_false (by omega)]
  exact ⟨Weak.rfl' _,Weak.rfl' _,trivial⟩
theorem oC (z:Int):Fn Tryz.prog 155 [zA z] (I z.sign):=by
 have e0:z.natAbs=0↔z=0:=by omega
 have e1:(Xb z.natAbs).length=0↔z=0:=digs_len_zero.trans e0
 refine Fq Tryz.call155 Tryz.func155 4 [] [] [] (by simp [Kf]) (X0 1000 ?_); simp (config:={ maxSteps:=2000000 }) only [AS.start,↓X2,wA,↓reduceIte,reduceIte,reduceCtorEq,Y1,Y2,Y3,Y4,Y5,Y6,Y7,Y8,Y9,YA,zA,wN]
 refine ⟨fun h=>Xr rfl rfl (X8 _) ?_,fun h=>⟨fun h2=>Xr rfl rfl (X8 _) ?_,fun h2=>Xr rfl rfl (X8 _) ?_⟩⟩
 ·rw [Int.sign_eq_neg_one_of_neg h]; rfl
 ·rw [e1.1 (by omega)]; rfl
 ·rw [Int.sign_eq_one_of_pos (by omega)]; rfl
theorem Pd (d:List Int) (h:Jo d):Fn Tryz.prog 226 [X9 d] (.tup [I (if d.length≤2 then val d else 0),.bool (decide (d.length≤2))]):=by
 have k2:¬ d.length≤2→I 0=I (if d.length≤2 then val d else 0)∧AV.bool false=.bool (decide (d.length≤2)):=fun h=>by simp [h]
 have k1:d.length≤2→∀ x,x=val d→I x=I (if d.length≤2 then val d else 0)∧AV.bool true=.bool (decide (d.length≤2)):=fun h x hx=>by simp [h,hx]
 refine Fq Tryz.call226 Tryz.func226 4 [5] [] [] (by simp [Kf]) (X0 1000 ?_); simp (config:={ maxSteps:=2000000 }) only [AS.start,↓X2,wA,↓reduceIte,reduceIte,reduceCtorEq,Y1,Y2,Y3,Y4,Y5,Y6,Y7,Y8,Y9,YA,zA,wN]
 have fin:∀ {s:AS} {x:Int},s.get 2=I x→s.get 3=.bool true→d.length≤2→x=val d→RetOk (Qr Tryz.prog Tryz.f226 [] [] (.tup [I (if d.length≤2 then val d else 0),.bool (decide (d.length≤2))])) s:=fun h1 h2 hl hx =>
  Sw rfl h1 h2 (X8 _) (X3 _) (k1 hl _ hx).1 (k1 hl _ hx).2
 refine ⟨fun a=>fin rfl rfl (by omega) ?_,fun a0=>⟨fun a=>⟨by omega,by omega,fin rfl rfl (by omega) ?_⟩,fun a1=>⟨fun a=>⟨⟨by omega,by omega⟩,by omega,by omega,by omega,fin rfl rfl (by omega) ?_⟩,fun a2=>Sw rfl rfl rfl (X8 _) (X3 _) (k2 (by omega)).1 (k2 (by omega)).2⟩⟩⟩
 ·obtain rfl:d=[]:=List.length_eq_zero_iff.1 (by omega)
  rfl
 ·obtain ⟨x,rfl⟩:=List.length_eq_one_iff.1 (show d.length=1 by omega)
  simp [val]
 ·obtain ⟨x,y,rfl⟩:∃ x y,d=[x,y]:=by
   match d,a with
   | [x,y],_=>exact ⟨x,y,rfl⟩
   | [],h=>exact absurd h (by simp)
   | [_],h=>exact absurd h (by simp)
   | _ :: _ :: _ :: _,h=>exact absurd h (by simp; omega)
  have h1:=h x (by simp)
  have h2:=h y (by simp)
  unfold Q3 at h1 h2
  simp only [List.getD_cons_zero,List.getD_cons_succ,val,IntKind.wrap_i64]
  omega
theorem RK (a:Int):Fn Tryz.prog 267 [I a] (.bool false):=by
 refine Fq Tryz.call267 Tryz.func267 3 [] [] [] (by simp [Kf]) (X0 1000 ?_); simp (config:={ maxSteps:=2000000 }) only [AS.start,↓X2,wA,↓reduceIte,reduceIte,reduceCtorEq,Y1,Y2,Y3,Y4,Y5,Y6,Y7,Y8,Y9,YA,zA,wN]
 exact Xr rfl rfl (X3 _) rfl
theorem VD (a b:Int):Fn Tryz.prog 249 [I a,I b] (I (a - b).sign):=by
 refine Fq Tryz.call249 Tryz.func249 7 [] [] [] (by simp [Kf]) (X0 1000 ?_); simp (config:={ maxSteps:=2000000 }) only [AS.start,↓X2,wA,↓reduceIte,reduceIte,reduceCtorEq,Y1,Y2,Y3,Y4,Y5,Y6,Y7,Y8,Y9,YA,zA,wN]
 refine X1 (RK a) rfl ?_
 simp only [↓X2,wA,↓reduceIte,reduceIte,reduceCtorEq,Y1,Y2,Y3,Y4,Y5,Y6,Y7,Y8,Y9,YA,zA,wN]
 refine X1 (RK b) rfl ?_
 simp only [↓X2,wA,↓reduceIte,reduceIte,reduceCtorEq,Y1,Y2,Y3,Y4,Y5,Y6,Y7,Y8,Y9,YA,zA,wN]
 refine ⟨fun h=>Xr rfl rfl (X8 _) ?_,fun h=>⟨fun h2=>Xr rfl rfl (X8 _) ?_,fun h2=>Xr rfl rfl (X8 _) ?_⟩⟩
 ·rw [Int.sign_eq_neg_one_of_neg (by omega)]; rfl
 ·rw [Int.sign_eq_one_of_pos (by omega)]; rfl
 ·rw [show a - b=0 by omega]; rfl
theorem fL {a b:List Int} (ha:Jo a) (hb:Jo b) (hl:a.length=b.length) {i:Nat} (hi:i<a.length) (he:a.drop (i+1)=b.drop (i+1)) (hne:a.getD i 0≠b.getD i 0) :
  (val a - val b).sign=(a.getD i 0 - b.getD i 0).sign:=by
 rw [Jv a i (by omega),Jv b i (by omega),Kn a i hi,Kn b i (by omega),he]
 have h1:=XU (QN ha i)
 have h2:=XU (QN hb i)
 have h3:=Zj (QN ha i)
 have h4:=Zj (QN hb i)
 have e1:(a.take i).length=i:=by rw [List.length_take]; omega
 have e2:(b.take i).length=i:=by rw [List.length_take]; omega
 rw [e1] at h3
 rw [e2] at h4
 generalize val (a.take i)=p at *
 generalize val (b.take i)=q at *
 generalize val (b.drop (i+1))=r at *
 generalize a.getD i 0=x at *
 generalize b.getD i 0=y at *
 have hp:=JW i
 generalize pw i=P at *
 have e:p+P*(x+1000000000*r) - (q+P*(y+1000000000*r))=(p - q)+P*(x - y):=by grind
 rw [e]
 rcases Int.lt_or_gt_of_ne hne with h | h
 ·rw [Int.sign_eq_neg_one_of_neg (show x - y<0 by omega)]
  have:P*(x - y)≤P*(-1):=Int.mul_le_mul_of_nonneg_left (by omega) (by omega)
  exact Int.sign_eq_neg_one_of_neg (by omega)
 ·rw [Int.sign_eq_one_of_pos (show 0<x - y by omega)]
  have:P*1≤P*(x - y):=Int.mul_le_mul_of_nonneg_left (by omega) (by omega)
  exact Int.sign_eq_one_of_pos (by omega)
theorem DB {a b:List Int} (ha:ZX a) (hb:ZX b) (h:a.length<b.length):val a<val b:=by
 have h1:=Zj ha.1
 have hne:b≠[]:=fun e=>by rw [e] at h; simp at h
 have h2:=Cu hb hne
 have h3:=D6 (show a.length≤b.length - 1 by omega)
 omega
theorem FT {a b:List Int} (hl:a.length=b.length) {i:Nat} (hi:i<a.length) (he:a.drop (i+1)=b.drop (i+1)) (h:a.getD i 0=b.getD i 0):a.drop i=b.drop i:=by
 have hi2:i<b.length:=by omega
 rw [List.drop_eq_getElem_cons hi,List.drop_eq_getElem_cons hi2,he]
 rw [List.getD_eq_getElem?_getD,List.getElem?_eq_getElem hi,List.getD_eq_getElem?_getD,List.getElem?_eq_getElem hi2] at h
 simp only [Option.getD_some] at h
 rw [h]
theorem CS (a b:List Int) (ha:ZX a) (hb:ZX b) (la:a.length<4611686018427387904):Fn Tryz.prog 215 [X9 a,X9 b] (I (val a - val b).sign):=by
 have hc:a.length≠b.length→Fn Tryz.prog 249 [I a.length,I b.length] (I (val a - val b).sign):=fun h=>by
  have e:((a.length:Int) - b.length).sign=(val a - val b).sign:=by
   rcases Nat.lt_or_gt_of_ne h with h' | h'
   ·have:=DB ha hb h'
    rw [Int.sign_eq_neg_one_of_neg (by omega),Int.sign_eq_neg_one_of_neg (by omega)]
   ·have:=DB hb ha h'
    rw [Int.sign_eq_one_of_pos (by omega),Int.sign_eq_one_of_pos (by omega)]
  rw [← e]; exact VD _ _
 refine Fq Tryz.call215 Tryz.func215 6 [] [] [] (by simp [Kf]) (X0 1000 ?_); simp (config:={ maxSteps:=2000000 }) only [AS.start,↓X2,wA,seval,zA,wN]
 refine ⟨fun h=>X1 (hc h) rfl ?_,fun hl=>?_⟩
 ·simp only [↓X2,wA,seval,zA,wN]
  exact Xr rfl rfl (X8 _) rfl
 refine Xe (fun k:Nat=>⟨6,[],[X9 a,X9 b,.any,.any,I 0,I ((k:Int) - 1)],[],[]⟩) (fun k=>k≤a.length∧a.drop k=b.drop k) (fun k=>k) a.length ⟨by omega,by rw [List.drop_length,hl,List.drop_length]⟩
  ?_ ?_
 ·have w0:IntKind.i64.wrap ((a.length:Int) - 1)=(a.length:Int) - 1:=by rw [IntKind.wrap_i64]; omega
  rw [w0]
  exact (Xa rfl (by simp [zA,wN,Xh,X9,Cy,JG,Qm,I]) (by simp [Xi]) rfl)
 rintro k ⟨hk,he⟩ next
 cases k with
 | zero =>
  refine X0 1000 ?_
  have e0:(0≤((0:Nat):Int) - 1)=False:=eq_false (by omega)
  have e1:((0:Int)≤0 - 1)=False:=eq_false (by omega)
  simp only [e0,e1,↓X2,wA,seval,zA,wN]
  refine Xr rfl rfl (X8 _) ?_
  rw [List.drop_zero,List.drop_zero] at he
  rw [he,Int.sub_self]; rfl
 | succ k =>
  have e1:((k+1:Nat):Int) - 1=(k:Int):=by omega
  have w1:IntKind.i64.wrap ((k:Int) - 1)=(k:Int) - 1:=by rw [IntKind.wrap_i64]; omega
  have e2:((k:Int)<a.length)=True:=eq_true (by omega)
  have e3:(k<a.length)=True:=eq_true (by omega)
  have e4:(k<b.length)=True:=eq_true (by omega)
  have hcm:a.getD k 0≠b.getD k 0→Fn Tryz.prog 249 [I (a.getD k 0),I (b.getD k 0)] (I (val a - val b).sign):=fun h=>by
   rw [fL ha.1 hb.1 hl (by omega) he h]; exact VD _ _
  refine X0 1000 ?_
  simp only [e1,w1,e3,e4,↓X2,wA,seval,zA,wN]
  refine ⟨fun h=>X1 (hcm h) rfl ?_,fun h=>next k _ ⟨by omega,FT hl (by omega) he h⟩ (by omega) (Xa rfl (by simp [zA,wN,Xh,X9,Cy,JG,Qm,I]) (by simp [Xi]) rfl)⟩
  simp only [↓X2,wA,seval,zA,wN]
  exact Xr rfl rfl (X8 _) rfl
theorem Ft (n:Int) (h:ZA n):Fn Tryz.prog 148 [I n] (zA n):=by
 obtain ⟨R,hR⟩:∃ R,R=zA n:=⟨_,rfl⟩
 have sR:Settled R:=hR▸XG _
 unfold ZA at h
 have c1:n<0→Fn Tryz.prog 207 [.bool (decide (n<0)),.int .u64 (IntKind.u64.wrap (0 - IntKind.u64.wrap n))] R:=fun h1=>by
  have e:IntKind.u64.wrap (0 - IntKind.u64.wrap n) = -n:=by rw [IntKind.wrap_u64,IntKind.wrap_u64]; omega
  have e2:Ky (decide (n<0)) (-n)=n:=by unfold Ky; rw [if_pos (decide_eq_true h1)]; omega
  have:=Z1 (decide (n<0)) (-n) (by omega) (by omega)
  rw [e2] at this
  rw [e,hR]; exact this
 have c2:¬ n<0→Fn Tryz.prog 207 [.bool (decide (n<0)),.int .u64 (IntKind.u64.wrap n)] R:=fun h1=>by
  have e:IntKind.u64.wrap n=n:=by rw [IntKind.wrap_u64]; omega
  have e2:Ky (decide (n<0)) n=n:=by unfold Ky; rw [if_neg (by simp; omega)]
  have:=Z1 (decide (n<0)) n (by omega) (by omega)
  rw [e2] at this
  rw [e,hR]; exact this
 rw [← hR]
 refine Fq Tryz.call148 Tryz.func148 4 [] [] [] (by simp [Kf]) (X0 1000 ?_); simp (config:={ maxSteps:=2000000 }) only [AS.start,↓X2,wA,seval,zA,wN]
 refine ⟨fun h1=>X1 (c1 h1) rfl ?_,fun h1=>X1 (c2 h1) rfl ?_⟩
 ·simp only [hR,↓X2,wA,seval,zA,wN]
  exact Qg rfl XQ rfl rfl rfl hR sR ⟨Weak.rfl' _,Weak.rfl' _,trivial⟩
 ·simp only [hR,↓X2,wA,seval,zA,wN]
  exact Qg rfl XQ rfl rfl rfl hR sR ⟨Weak.rfl' _,Weak.rfl' _,trivial⟩
end
end Go.Ab.N
