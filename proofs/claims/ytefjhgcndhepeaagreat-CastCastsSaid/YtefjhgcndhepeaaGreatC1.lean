/- Contracts of functions of these chapters, for every argument that fits, and what they need. -/
import Derived.Test.YtefjhgcndhepeaaGreatAb4
import Derived.Test.YtefjhgcndhepeaaGreatRows
import Derived.KernelRfl
set_option linter.unusedSimpArgs false
set_option linter.unusedVariables false
open Nat renaming reducePow → Y1, reduceLT → Y2, reduceLeDiff → Y3, reduceEqDiff → Y4, reduceAdd → Y5, reduceMul → Y6, reduceSub → Y7, reduceBEq → Y8, reduceDiv → Y9, reduceMod → YA
namespace Go.Ab.N
open Go.Ab
open Classical
noncomputable section
def pw:Nat→Int
 | 0=>1
 | n+1=>1000000000*pw n
theorem JM:∀ n,0<pw n
 | 0=>by simp [pw]
 | n+1=>by have:=JM n; simp only [pw]; omega
theorem F4 (m n:Nat):pw (m+n)=pw m*pw n:=by
 induction m with
 | zero=>simp [pw]
 | succ m ih=>rw [show m+1+n=(m+n)+1 by omega]; simp only [pw]; rw [ih,Int.mul_assoc]
theorem CJ {m n:Nat} (h:m≤n):pw m≤pw n:=by
 obtain ⟨k,rfl⟩:=Nat.exists_eq_add_of_le h
 induction k with
 | zero=>exact Int.le_refl _
 | succ k ih =>
  have h1:=ih (by omega)
  have h2:=JM (m+k)
  rw [show m+(k+1)=(m+k)+1 by omega]
  simp only [pw]; omega
def val:List Int→Int
 | []=>0
 | d :: l=>d+1000000000*val l
def Q0 (d:Int):Prop:=0≤d∧d<1000000000
def Jg (l:List Int):Prop:=∀ d∈l,Q0 d
def ZO (l:List Int):Prop:=Jg l∧(l≠[]→l.getD (l.length - 1) 0≠0)
theorem BT:Jg []:=fun _ h=>by cases h
theorem KJ {d:Int} {l:List Int}:Jg (d :: l)↔Q0 d∧Jg l:=by unfold Jg; simp
theorem HO {l m:List Int}:Jg (l ++ m)↔Jg l∧Jg m:=by
 unfold Jg
 constructor
 ·exact fun h=>⟨fun d hd=>h d (List.mem_append_left _ hd),fun d hd=>h d (List.mem_append_right _ hd)⟩
 ·rintro ⟨h1,h2⟩ d hd
  rcases List.mem_append.1 hd with h | h
  ·exact h1 d h
  ·exact h2 d h
theorem Jp {l:List Int} (h:Jg l) (i:Nat):Q0 (l.getD i 0):=by
 by_cases hi:i<l.length
 ·exact h _ (Kb hi)
 ·rw [List.getD_eq_getElem?_getD,List.getElem?_eq_none (by omega)]; exact ⟨by simp,by simp⟩
theorem QL {l:List Int} (h:Jg l) (n:Nat):Jg (l.take n):=fun d hd=>h d (List.mem_of_mem_take hd)
theorem Mz {l:List Int} (h:∀ i,i<l.length→Q0 (l.getD i 0)):Jg l:=by
 intro d hd
 obtain ⟨i,hi,rfl⟩:=List.getElem_of_mem hd
 have:=h i hi
 rwa [List.getD_eq_getElem?_getD,List.getElem?_eq_getElem hi] at this
theorem XU {l:List Int} (h:Jg l):0≤val l:=by
 induction l with
 | nil=>exact Int.le_refl 0
 | cons d l ih =>
  obtain ⟨h1,h2⟩:=KJ.1 h
  have:=ih h2
  simp only [val]; unfold Q0 at h1; omega
theorem Za {l:List Int} (h:Jg l):val l<pw l.length:=by
 induction l with
 | nil=>simp [val,pw]
 | cons d l ih =>
  obtain ⟨h1,h2⟩:=KJ.1 h
  have:=ih h2
  simp only [val,List.length_cons,pw]; unfold Q0 at h1; omega
theorem Oy (l m:List Int):val (l ++ m)=val l+pw l.length*val m:=by
 induction l with
 | nil=>simp [val,pw]
 | cons d l ih =>
  simp only [List.cons_append,val,List.length_cons,pw]
  rw [ih,Int.mul_add,Int.mul_assoc]; omega
theorem DK (l:List Int) (x:Int):val (l ++ [x])=val l+pw l.length*x:=by
 rw [Oy]; simp [val]
theorem Je (l:List Int) (i:Nat) (h:i<l.length):val (l.take (i+1))=val (l.take i)+pw i*l.getD i 0:=by
 rw [QH l 0 i h,DK,List.length_take,Nat.min_eq_left (by omega)]
theorem Eh (n:Nat):val (List.replicate n 0)=0:=by
 induction n with
 | zero=>rfl
 | succ n ih=>simp [List.replicate_succ,val,ih]
theorem Ce {l:List Int} (h:ZO l) (hne:l≠[]):pw (l.length - 1)≤val l:=by
 have hl:=h.2 hne
 have hlen:0<l.length:=List.length_pos_iff.2 hne
 have e:=Je l (l.length - 1) (by omega)
 rw [show l.length - 1+1=l.length by omega,List.take_length] at e
 have h1:=XU (QL h.1 (l.length - 1))
 have h2:=Jp h.1 (l.length - 1)
 have h3:=JM (l.length - 1)
 have h4:pw (l.length - 1)*1≤pw (l.length - 1)*l.getD (l.length - 1) 0:=Int.mul_le_mul_of_nonneg_left (by unfold Q0 at h2; omega) (by omega)
 omega
theorem I7:∀ {a b:List Int},Jg a→Jg b→a.length=b.length→val a=val b→a=b
 | [],[],_,_,_,_=>rfl
 | [],_ :: _,_,_,h,_=>by simp at h
 | _ :: _,[],_,_,h,_=>by simp at h
 | x :: a,y :: b,ha,hb,hl,hv=>by
  obtain ⟨h1,h2⟩:=KJ.1 ha
  obtain ⟨h3,h4⟩:=KJ.1 hb
  simp only [val] at hv
  unfold Q0 at h1 h3
  have hxy:x=y:=by omega
  have hv':val a=val b:=by omega
  rw [hxy,I7 h2 h4 (by simpa using hl) hv']
theorem Wy {a b:List Int} (ha:ZO a) (hb:ZO b) (h:val a=val b):a=b:=by
 have key:∀ {a b:List Int},ZO a→ZO b→val a=val b→a.length≤b.length→a=b:=by
  intro a b ha hb h hl
  by_cases e:a.length=b.length
  ·exact I7 ha.1 hb.1 e h
  ·exfalso
   have hne:b≠[]:=fun e'=>by
    have:b.length=0:=by rw [e']; rfl
    omega
   have h1:=Ce hb hne
   have h2:=Za ha.1
   have h3:=CJ (show a.length≤b.length - 1 by omega)
   omega
 rcases Nat.le_total a.length b.length with hl | hl
 ·exact key ha hb h hl
 ·exact (key hb ha h.symm hl).symm
def Xb (n:Nat):List Int:=if h:n=0 then [] else ((n % 1000000000:Nat):Int) :: Xb (n / 1000000000)
termination_by n
decreasing_by omega
theorem XZ:Xb 0=[]:=by rw [Xb]; simp
theorem AF {n:Nat} (h:n≠0):Xb n=((n % 1000000000:Nat):Int) :: Xb (n / 1000000000):=by rw [Xb]; simp [h]
theorem XA (n:Nat):val (Xb n)=n:=by
 induction n using Nat.strongRecOn with
 | ind n ih =>
  by_cases h:n=0
  ·subst h; rw [XZ]; rfl
  ·rw [AF h]
   simp only [val]
   rw [ih (n / 1000000000) (by omega)]; omega
theorem XH (n:Nat):Jg (Xb n):=by
 induction n using Nat.strongRecOn with
 | ind n ih =>
  by_cases h:n=0
  ·subst h; rw [XZ]; exact BT
  ·rw [AF h]
   exact KJ.2 ⟨⟨by omega,by omega⟩,ih _ (by omega)⟩
theorem HP {n:Nat} (h:n≠0):Xb n≠[]:=by rw [AF h]; simp
theorem NX {n:Nat}:Xb n=[]↔n=0:=⟨fun h=>Classical.byContradiction fun e=>HP e h,fun h=>by rw [h]; exact XZ⟩
theorem XO (n:Nat):ZO (Xb n):=by
 refine ⟨XH n,?_⟩
 induction n using Nat.strongRecOn with
 | ind n ih =>
  intro hne
  by_cases h:n=0
  ·subst h; exact absurd XZ hne
  ·rw [AF h]
   by_cases h2:n / 1000000000=0
   ·rw [h2,XZ]; simp; omega
   ·have hn:=HP h2
    have:=ih (n / 1000000000) (by omega) hn
    obtain ⟨k,hk⟩:∃ k,(Xb (n / 1000000000)).length=k+1:=⟨(Xb (n / 1000000000)).length - 1,by have:=List.length_pos_iff.2 hn; omega⟩
    simp only [List.length_cons,hk,Nat.add_sub_cancel] at this ⊢
    simpa using this
theorem Aw {l:List Int} (h:ZO l):Xb (val l).toNat=l:=by
 refine Wy (XO _) h ?_
 rw [XA]
 have:=XU h.1
 omega
theorem mV {l:List Int} (h:Jg l):((val l).toNat:Int)=val l:=Int.toNat_of_nonneg (XU h)
def A4 (l:List Int):Nat→Nat
 | 0=>0
 | n+1=>if l.getD n 0=0 then A4 l n else n+1
theorem VB (l:List Int):∀ n,A4 l n≤n
 | 0=>Nat.le_refl _
 | n+1=>by
  simp only [A4]
  split
  ·exact Nat.le_succ_of_le (VB l n)
  ·exact Nat.le_refl _
theorem Se {l:List Int}:∀ n,n≤l.length→val (l.take (A4 l n))=val (l.take n)
 | 0,_=>rfl
 | n+1,h=>by
  simp only [A4]
  split
  ·rename_i e
   rw [Se n (by omega),Je l n h,e]; simp
  ·rfl
theorem Uh {l:List Int} (h:Jg l) (n:Nat) (hn:n≤l.length):ZO (l.take (A4 l n)):=by
 refine ⟨QL h _,fun hne=>?_⟩
 induction n with
 | zero=>simp [A4] at hne
 | succ n ih =>
  simp only [A4] at hne ⊢
  split
  ·rename_i e; rw [if_pos e] at hne; exact ih (by omega) hne
  ·rename_i e
   rw [List.length_take,Nat.min_eq_left hn,Nat.add_sub_cancel,Bj l 0 n (n+1) (by omega)]
   exact e
theorem aa {l:List Int} (h:Jg l):l.take (A4 l l.length)=Xb (val l).toNat:=by
 have h1:=Uh h l.length (Nat.le_refl _)
 rw [← Aw h1,Se _ (Nat.le_refl _),List.take_length]
def sm (f:Nat→Int):Nat→Int
 | 0=>0
 | n+1=>sm f n+pw n*f n
def AB (f:Nat→Int) (n:Nat):List Int:=(List.range n).map f
theorem Q8 (f:Nat→Int) (n:Nat):(AB f n).length=n:=by simp [AB]
theorem DI (f:Nat→Int) (n:Nat):AB f (n+1)=AB f n ++ [f n]:=by simp [AB,List.range_succ]
theorem Ca (f:Nat→Int) (n i:Nat) (h:i<n):(AB f n).getD i 0=f i:=by simp [AB,List.getD_eq_getElem?_getD,h]
theorem KB {f f':Nat→Int} {n:Nat} (h:∀ k,k<n→f k=f' k):AB f n=AB f' n:=List.map_congr_left fun k hk=>h k (by simpa using hk)
theorem Gh (f:Nat→Int):∀ n,val (AB f n)=sm f n
 | 0=>rfl
 | n+1=>by rw [DI,DK,Q8,Gh f n]; rfl
theorem Vw (l:List Int):∀ n,n≤l.length→sm (fun i=>l.getD i 0) n=val (l.take n)
 | 0,_=>rfl
 | n+1,h=>by rw [Je l n h,← Vw l n (by omega)]; rfl
theorem qB (l:List Int) (n:Nat) (h:l.length≤n):sm (fun i=>l.getD i 0) n=val l:=by
 obtain ⟨k,rfl⟩:=Nat.exists_eq_add_of_le h
 induction k with
 | zero=>rw [Nat.add_zero,Vw l _ (Nat.le_refl _),List.take_length]
 | succ k ih =>
  rw [show l.length+(k+1)=(l.length+k)+1 by omega]
  simp only [sm]
  rw [ih (by omega)]
  have:l.getD (l.length+k) 0=0:=by rw [List.getD_eq_getElem?_getD,List.getElem?_eq_none (by omega)]; rfl
  rw [this]; simp
theorem Cz {f:Nat→Int} {n:Nat} (h:∀ i,i<n→Q0 (f i)):Jg (AB f n):=by
 refine Mz fun i hi=>?_
 rw [Q8] at hi
 rw [Ca _ _ _ hi]; exact h i hi
def Qf (a b:Nat→Int):Nat→Int
 | 0=>0
 | i+1=>if 1000000000≤a i+b i+Qf a b i then 1 else 0
def Ag (a b:Nat→Int) (i:Nat):Int:=if 1000000000≤a i+b i+Qf a b i then a i+b i+Qf a b i - 1000000000 else a i+b i+Qf a b i
theorem Db (a b:Nat→Int):∀ i,Qf a b i=0∨Qf a b i=1
 | 0=>.inl rfl
 | i+1=>by simp only [Qf]; split <;> simp
theorem OI {a b:Nat→Int} {i:Nat} (ha:Q0 (a i)) (hb:Q0 (b i)):Q0 (Ag a b i):=by
 have:=Db a b i
 unfold Q0 at *
 unfold Ag
 split <;> omega
theorem NB (a b:Nat→Int):∀ n,sm (Ag a b) n+pw n*Qf a b n=sm a n+sm b n
 | 0=>by simp [sm,Qf]
 | n+1=>by
  have ih:=NB a b n
  have e:Ag a b n+1000000000*Qf a b (n+1)=a n+b n+Qf a b n:=by
   simp only [Ag,Qf]
   split <;> omega
  simp only [sm,pw]
  have:pw n*(Ag a b n+1000000000*Qf a b (n+1))=pw n*(a n+b n+Qf a b n):=by rw [e]
  grind
def JK (a b:Nat→Int):Nat→Int
 | 0=>0
 | i+1=>if a i - b i - JK a b i<0 then 1 else 0
def AY (a b:Nat→Int) (i:Nat):Int:=if a i - b i - JK a b i<0 then a i - b i - JK a b i+1000000000 else a i - b i - JK a b i
theorem Gb (a b:Nat→Int):∀ i,JK a b i=0∨JK a b i=1
 | 0=>.inl rfl
 | i+1=>by simp only [JK]; split <;> simp
theorem S7 {a b:Nat→Int} {i:Nat} (ha:Q0 (a i)) (hb:Q0 (b i)):Q0 (AY a b i):=by
 have:=Gb a b i
 unfold Q0 at *
 unfold AY
 split <;> omega
theorem Ot (a b:Nat→Int):∀ n,sm (AY a b) n - pw n*JK a b n=sm a n - sm b n
 | 0=>by simp [sm,JK]
 | n+1=>by
  have ih:=Ot a b n
  have e:AY a b n - 1000000000*JK a b (n+1)=a n - b n - JK a b n:=by
   simp only [AY,JK]
   split <;> omega
  simp only [sm,pw]
  have:pw n*(AY a b n - 1000000000*JK a b (n+1))=pw n*(a n - b n - JK a b n):=by rw [e]
  grind
theorem nY {f:Nat→Int}:∀ {n:Nat},(∀ i,i<n→Q0 (f i))→0≤sm f n∧sm f n<pw n
 | 0,_=>by simp [sm,pw]
 | n+1,h=>by
  obtain ⟨h1,h2⟩:=nY (n:=n) fun i hi=>h i (by omega)
  have h3:=h n (by omega)
  have h4:=JM n
  unfold Q0 at h3
  have h5:pw n*f n≤pw n*999999999:=Int.mul_le_mul_of_nonneg_left (by omega) (by omega)
  have h6:0≤pw n*f n:=Int.mul_nonneg (by omega) h3.1
  simp only [sm,pw]; omega
theorem Vx {a b:Nat→Int} {n:Nat} (ha:∀ i,i<n→Q0 (a i)) (hb:∀ i,i<n→Q0 (b i)) (h:sm b n≤sm a n):JK a b n=0:=by
 have h1:=Ot a b n
 have h2:=(nY (f:=AY a b) (n:=n) fun i hi=>S7 (ha i hi) (hb i hi)).2
 rcases Gb a b n with e | e
 ·exact e
 ·rw [e] at h1; omega
theorem Qz (l:List Int) (i j:Nat) (x:Int) (hi:i<l.length):(l.set i x).getD j 0=if j=i then x else l.getD j 0:=by
 simp only [List.getD_eq_getElem?_getD,List.getElem?_set]
 by_cases h:i=j
 ·subst h; simp [hi]
 ·simp [h,Ne.symm h]
theorem C0:∀ (l:List Int) (i:Nat) (x:Int),i<l.length→val (l.set i x)=val l+pw i*(x - l.getD i 0)
 | [],_,_,h=>by simp at h
 | d :: l,0,x,_=>by simp [val,pw]; omega
 | d :: l,i+1,x,h=>by
  have ih:=C0 l i x (by simpa using h)
  simp only [List.set_cons_succ,val,pw,List.getD_cons_succ]
  rw [ih,Int.mul_add,Int.mul_assoc]; omega
theorem DU {l:List Int} (h:Jg l) (i:Nat) {x:Int} (hx:Q0 x):Jg (l.set i x):=fun d hd=>by
 rcases List.mem_or_eq_of_mem_set hd with e | e
 ·exact h d e
 ·rw [e]; exact hx
theorem Bs {x y:Int} (hx:Q0 x) (hy:Q0 y):0≤x*y∧x*y≤999999998000000001:=by
 unfold Q0 at hx hy
 have h1:0≤x*y:=Int.mul_nonneg hx.1 hy.1
 have h2:x*y≤999999999*y:=Int.mul_le_mul_of_nonneg_right (by omega) hy.1
 omega
theorem Kg (l:List Int) (i:Nat) (h:i<l.length):val (l.drop i)=l.getD i 0+1000000000*val (l.drop (i+1)):=by
 rw [List.drop_eq_getElem_cons h]
 simp only [val]
 rw [List.getD_eq_getElem?_getD,List.getElem?_eq_getElem h]; rfl
theorem Jn (l:List Int) (i:Nat) (h:i≤l.length):val l=val (l.take i)+pw i*val (l.drop i):=by
 conv=>lhs; rw [← List.take_append_drop i l]
 rw [Oy,List.length_take,Nat.min_eq_left h]
def Ko (a:Nat→Int) (k:Int):Nat→Int
 | 0=>0
 | i+1=>(a i*k+Ko a k i) / 1000000000
def F0 (a:Nat→Int) (k:Int) (i:Nat):Int:=(a i*k+Ko a k i) % 1000000000
theorem Cl {a:Nat→Int} {k:Int} (ha:∀ i,Q0 (a i)) (hk:Q0 k):∀ i,Q0 (Ko a k i)
 | 0=>⟨by simp [Ko],by simp [Ko]⟩
 | i+1=>by
  have h1:=Cl ha hk i
  have h2:=Bs (ha i) hk
  simp only [Ko]; unfold Q0 at *; omega
theorem fL {a:Nat→Int} {k:Int} (ha:∀ i,Q0 (a i)) (hk:Q0 k) (i:Nat):Q0 (F0 a k i):=by
 unfold F0 Q0; omega
theorem V7 (a:Nat→Int) (k:Int):∀ n,sm (F0 a k) n+pw n*Ko a k n=sm a n*k
 | 0=>by simp [sm,Ko]
 | n+1=>by
  have ih:=V7 a k n
  have e:F0 a k n+1000000000*Ko a k (n+1)=a n*k+Ko a k n:=by
   simp only [F0,Ko]; omega
  have e2:pw n*(F0 a k n+1000000000*Ko a k (n+1))=pw n*(a n*k+Ko a k n):=by rw [e]
  simp only [sm,pw]
  grind
def JT (a:List Int) (b:Int) (i:Nat):Int:=val (a.drop i) % b
def ZW (a:List Int) (b:Int) (i:Nat):Int:=(JT a b (i+1)*1000000000+a.getD i 0) / b
theorem GI (a:List Int) (b:Int) (i:Nat) (h:i<a.length):JT a b i=(JT a b (i+1)*1000000000+a.getD i 0) % b:=by
 unfold JT
 rw [Kg a i h]
 rw [Int.add_comm,Int.mul_comm,Int.add_emod,Int.mul_emod]
 conv=>rhs; rw [Int.add_emod,Int.mul_emod,Int.emod_emod_of_dvd _ (Int.dvd_refl b)]
theorem Lo (a:List Int) (b:Int):JT a b a.length=0:=by unfold JT; simp [val]
theorem Dz {a:List Int} {b:Int} (ha:Jg a) (hb:0<b) (i:Nat):Q0 (ZW a b i):=by
 have h1:=Int.emod_nonneg (val (a.drop (i+1))) (show b≠0 by omega)
 have h2:=Int.emod_lt_of_pos (val (a.drop (i+1))) hb
 have h3:=Jp ha i
 unfold Q0 at *
 unfold ZW JT
 refine ⟨Int.ediv_nonneg (by omega) (by omega),Int.ediv_lt_of_lt_mul hb ?_⟩
 omega
theorem Vn {a:List Int} {b:Int} (hb:0<b):∀ i,i≤a.length→val (a.drop (a.length - i))=b*val ((AB (ZW a b) a.length).drop (a.length - i))+JT a b (a.length - i)
 | 0,_=>by
  have e:(AB (ZW a b) a.length).drop a.length=[]:=by rw [List.drop_eq_nil_iff,Q8]; exact Nat.le_refl _
  simp [e,Lo,val]
 | i+1,h=>by
  have ih:=Vn (a:=a) hb i (by omega)
  obtain ⟨k,hk⟩:∃ k,a.length - (i+1)=k:=⟨_,rfl⟩
  have hk1:a.length - i=k+1:=by omega
  rw [hk1] at ih
  rw [hk]
  rw [Kg a k (by omega),Kg (AB (ZW a b) a.length) k (by rw [Q8]; omega),Ca _ _ _ (show k<a.length by omega)]
  have e:=Int.mul_ediv_add_emod (JT a b (k+1)*1000000000+a.getD k 0) b
  have e2:=GI a b k (by omega)
  have e3:ZW a b k=(JT a b (k+1)*1000000000+a.getD k 0) / b:=rfl
  rw [← e3,← e2] at e
  grind
theorem Of {a:List Int} {b:Int} (hb:0<b):val a=b*val (AB (ZW a b) a.length)+JT a b 0:=by
 have:=Vn (a:=a) hb a.length (Nat.le_refl _)
 simpa using this
def zA (z:Int):AV:=.agg [.bool (decide (z<0)),X8 (Xb z.natAbs)]
theorem XE (z:Int):Settled (zA z):=Qd (by simp [X7,X3])
theorem nM:(!(true == false))=true:=Go.Ab.nrfl rfl
theorem nL:(!(false == true))=true:=Go.Ab.nrfl rfl
theorem nN:(!(true == true))=false:=Go.Ab.nrfl rfl
theorem nK:(!(false == false))=false:=Go.Ab.nrfl rfl
set_option linter.defProp false in
def wN:=And.intro nM (And.intro nL (And.intro nN nK))
def Ku (neg:Bool) (v:Int):Int:=if neg=true then -v else v
theorem digs_len_zero {n:Nat}:(Xb n).length=0↔n=0:=by rw [List.length_eq_zero_iff,NX]
theorem nO {l:List Int} (h:Jg l) (neg:Bool):zA (Ku neg (val l))=.agg [.bool (neg && decide (A4 l l.length≠0)),X8 (l.take (A4 l l.length))]:=by
 have h0:=XU h
 have e1:(Ku neg (val l)).natAbs=(val l).toNat:=by unfold Ku; split <;> omega
 have e2:=aa h
 have hle:=VB l l.length
 have e3:A4 l l.length=0↔val l=0:=by
  have h1:(l.take (A4 l l.length)).length=A4 l l.length:=by rw [List.length_take,Nat.min_eq_left hle]
  rw [← h1,e2,digs_len_zero]; omega
 unfold zA
 rw [e1,e2]
 congr 3
 unfold Ku
 have h0':¬ val l<0:=by omega
 cases neg
 ·simp [h0']
 ·have:-val l<0↔¬ A4 l l.length=0:=by rw [e3]; omega
  simp only [if_true,Bool.true_and,decide_eq_decide]
  exact this
theorem IE {d:Nat} (h0:d≠0) (h:d<1000000000):Xb d=[(d:Int)]:=by
 rw [AF h0,show d / 1000000000=0 by omega,XZ,show d % 1000000000=d by omega]
theorem Po {d:Nat} (h0:1000000000≤d) (h:d<1000000000000000000):Xb d=[((d % 1000000000:Nat):Int),((d / 1000000000:Nat):Int)]:=by
 rw [AF (by omega),IE (by omega) (by omega)]
theorem Tm {d:Nat} (h0:1000000000000000000≤d) (h:d<18446744073709551616) :
  Xb d=[((d % 1000000000:Nat):Int),((d / 1000000000 % 1000000000:Nat):Int),((d / 1000000000 / 1000000000:Nat):Int)]:=by
 rw [AF (by omega),Po (by omega) (by omega)]
def dg (l:List Int):Nat→Int:=fun i=>l.getD i 0
theorem Q5 {l:List Int} (h:Jg l) (i:Nat):Q0 (dg l i):=Jp h i
theorem Gw {l:List Int} {i:Nat} (h:l.length≤i):dg l i=0:=by unfold dg; rw [List.getD_eq_getElem?_getD,List.getElem?_eq_none h]; rfl
theorem DF (l:List Int) (n:Nat) (h:l.length≤n):sm (dg l) n=val l:=qB l n h
def ZB (a b:List Int) (n:Nat):List Int:=AB (Ag (dg a) (dg b)) n ++ [Qf (dg a) (dg b) n]
theorem N9 (a b:List Int) (n:Nat) (ha:a.length≤n) (hb:b.length≤n):val (ZB a b n)=val a+val b:=by
 unfold ZB
 rw [DK,Q8,Gh,NB,DF a n ha,DF b n hb]
theorem N8 {a b:List Int} (ha:Jg a) (hb:Jg b) (n:Nat):Jg (ZB a b n):=by
 unfold ZB
 refine HO.2 ⟨Cz fun i _=>OI (Q5 ha i) (Q5 hb i),KJ.2 ⟨?_,BT⟩⟩
 have:=Db (dg a) (dg b) n
 unfold Q0; omega
theorem E5 (a b:List Int) (n:Nat):(ZB a b n).length=n+1:=by simp [ZB,Q8]
def Z5 (a b:List Int):List Int:=AB (AY (dg a) (dg b)) a.length
theorem Bw {a b:List Int} (ha:Jg a) (hb:Jg b) (hl:b.length≤a.length) (h:val b≤val a):val (Z5 a b)=val a - val b:=by
 unfold Z5
 have e:=Vx (n:=a.length) (fun i _=>Q5 ha i) (fun i _=>Q5 hb i) (by rw [DF b _ hl,DF a _ (Nat.le_refl _)]; exact h)
 have e2:=Ot (dg a) (dg b) a.length
 rw [e,DF a _ (Nat.le_refl _),DF b _ hl] at e2
 rw [Gh]; omega
theorem Bv {a b:List Int} (ha:Jg a) (hb:Jg b):Jg (Z5 a b):=Cz fun i _=>S7 (Q5 ha i) (Q5 hb i)
def J2 (a b:List Int) (i:Nat):List Int:=AB (fun j=>if j<i then AY (dg a) (dg b) j else if j=i then dg a j - JK (dg a) (dg b) i else dg a j) a.length
theorem ia (l:List Int):AB (dg l) l.length=l:=by
 refine List.ext_getElem (by simp [AB]) fun i h1 h2=>?_
 simp [AB,dg,List.getD_eq_getElem?_getD,h2]
theorem R7 (a b:List Int):J2 a b 0=a:=by
 unfold J2
 conv=>rhs; rw [← ia a]
 refine KB fun k _=>?_
 rw [if_neg (by omega)]
 split
 ·simp [JK]
 ·rfl
theorem TG (a b:List Int):J2 a b a.length=Z5 a b:=KB fun k hk=>by rw [if_pos hk]
theorem AX (f:Nat→Int) (n k:Nat) (x:Int) (h:k<n):(AB f n).set k x=AB (fun q=>if q=k then x else f q) n:=by
 refine List.ext_getElem (by simp [AB]) fun q h1 h2=>?_
 have hq:q<n:=by simpa [Q8] using h2
 by_cases e:k=q
 ·subst e; simp [AB]
 ·simp [AB,List.getElem_set,e,Ne.symm e]
end
end Go.Ab.N
namespace Go.Ab.N
open Go Go.Ab
open Classical
noncomputable section
theorem XS {l m:List AV} (h:WeakL l m):Weak (.agg l) (.agg m):=fun c v hv=>by
 cases hv with
 | agg vs _ hs hr =>
  have:=(iI h) c (.tuple vs) (.tup vs _ hs hr)
  cases this with
  | tup _ _ hs' hr'=>exact .agg vs m hs' hr'
theorem Ql (f:Nat→AV) (t:Bool):Weak (.sl 0 0 f t) (X8 []):=A7 rfl (Nat.le_refl _) fun j hj=>by exact absurd hj (Nat.not_lt_zero j)
theorem ZJ {n:Nat} {L:List AV} {l:List Int} {t:Bool} (hn:n=l.length) (h:L=l.map I):Weak (.sl n n (Xq L) t) (X8 l):=by
 subst hn; subst h; exact iG l t
theorem Mv (L:List AV):∀ n off,off+n=L.length→Qm (Xq L) off 0 n=L.drop off:=by
 have key:∀ n off j,off+j+n=L.length→Qm (Xq L) off j n=L.drop (off+j):=by
  intro n
  induction n with
  | zero=>intro off j h; rw [List.drop_eq_nil_iff.2 (by omega)]; rfl
  | succ n ih =>
   intro off j h
   rw [List.drop_eq_getElem_cons (by omega)]
   simp only [Qm]
   rw [ih off (j+1) (by omega)]
   congr 1
   show L.getD (off+j) .any=_
   rw [List.getD_eq_getElem?_getD,List.getElem?_eq_getElem (by omega)]; rfl
 intro n off h
 rw [key n off 0 (by omega)]; rfl
theorem qu {P:Program} {fn:Func} {str hcs:List Nat} {r:AV} {s:AS} {t u id ver n:Nat} {L:List AV} (hr:fn.results=#[.cell t u]) (hk:BL P u=some (some n)) (hs:s.get t=.ref id ver 0)
  (ho:s.h[id]?=some (.row ver n (Xq L))) (hn:L.length=n) (h:JJ s.h (.agg L) r):RetOk (Qn P fn str hcs r) s:=by
 subst hn
 refine BF (v:=.agg L) hr ?_ h
 rw [hs,NL,hk,EH,ho,EI,qp,Mv L _ _ (by omega)]
 simp [Q4]
theorem Qe {P:Program} {fn:Func} {str hcs:List Nat} {r:AV} {s:AS} {t u id ver n:Nat} {L M:List AV} (hr:fn.results=#[.cell t u]) (hk:BL P u=some (some n)) (hs:s.get t=.ref id ver 0)
  (ho:s.h[id]?=some (.row ver n (Xq L))) (hn:L.length=n) (e:r=.agg M) (hset:Settled r) (h:WeakL L M):RetOk (Qn P fn str hcs r) s:=by
 refine qu hr hk hs ho hn ?_
 subst e
 exact Xr hset (XS h)
end
end Go.Ab.N
namespace Go.Ab.N
open Go Go.RowKit Go.Proofs
theorem sY:BL Tryz.prog 3=some none:=by kernel_rfl
theorem qF:Ky Tryz.prog 3=some 1:=by kernel_rfl
theorem sW:OA Tryz.prog 3=some .i64:=by kernel_rfl
theorem qQ:Qo Tryz.prog 3=some [.int .i64 0]:=by kernel_rfl
theorem qS:Nt Tryz.prog 3=some (.int .i64 0):=by kernel_rfl
theorem sZ:BL Tryz.prog 4=some none:=by kernel_rfl
theorem qG:Ky Tryz.prog 4=some 1:=by kernel_rfl
theorem p8:Iv Tryz.prog 4=true:=by kernel_rfl
theorem qR:Qo Tryz.prog 4=some [.bool false]:=by kernel_rfl
theorem rU:BL Tryz.prog 22=some none:=by kernel_rfl
theorem mJ:Ky Tryz.prog 22=some 1:=by kernel_rfl
theorem gU:DE Tryz.prog 22=true:=by kernel_rfl
theorem nH:AH Tryz.prog 22=some (3,1,8):=by kernel_rfl
theorem rV:BL Tryz.prog 23=some none:=by kernel_rfl
theorem mK:Ky Tryz.prog 23=some 1:=by kernel_rfl
theorem gV:DE Tryz.prog 23=true:=by kernel_rfl
theorem rG:AH Tryz.prog 23=some (110,2,16):=by kernel_rfl
theorem rW:BL Tryz.prog 24=some none:=by kernel_rfl
theorem mL:Ky Tryz.prog 24=some 1:=by kernel_rfl
theorem gW:DE Tryz.prog 24=true:=by kernel_rfl
theorem rH:AH Tryz.prog 24=some (4,1,1):=by kernel_rfl
theorem XP:BL Tryz.prog 26=some (some 2):=by kernel_rfl
theorem mM:Ky Tryz.prog 26=some 2:=by kernel_rfl
theorem kU:BK Tryz.prog 26 0=some (0,1,none):=by kernel_rfl
theorem jT:Qh Tryz.prog 26 0=some (0,1):=by kernel_rfl
theorem kV:BK Tryz.prog 26 1=some (1,1,none):=by kernel_rfl
theorem jU:Qh Tryz.prog 26 1=some (1,1):=by kernel_rfl
theorem rq:ZM Tryz.prog 26=true:=by kernel_rfl
theorem ne:Qo Tryz.prog 26=some [.bool false,.sl 0 0 (fun _=>.any) true]:=by kernel_rfl
theorem Qb:BL Tryz.prog 28=some (some 4):=by kernel_rfl
theorem mN:Ky Tryz.prog 28=some 4:=by kernel_rfl
theorem kW:BK Tryz.prog 28 0=some (0,2,some 2):=by kernel_rfl
theorem jV:Qh Tryz.prog 28 0=some (0,2):=by kernel_rfl
theorem kX:BK Tryz.prog 28 1=some (2,2,some 2):=by kernel_rfl
theorem jW:Qh Tryz.prog 28 1=some (2,2):=by kernel_rfl
theorem rr:ZM Tryz.prog 28=true:=by kernel_rfl
theorem nk:Qo Tryz.prog 28=some [.bool false,.sl 0 0 (fun _=>.any) true,.bool false,.sl 0 0 (fun _=>.any) true]:=by kernel_rfl
theorem MP:BL Tryz.prog 30=some (some 25):=by kernel_rfl
theorem mO:Ky Tryz.prog 30=some 25:=by kernel_rfl
theorem kY:BK Tryz.prog 30 0=some (0,1,none):=by kernel_rfl
theorem jX:Qh Tryz.prog 30 0=some (0,1):=by kernel_rfl
theorem kZ:BK Tryz.prog 30 1=some (1,1,none):=by kernel_rfl
theorem jY:Qh Tryz.prog 30 1=some (1,1):=by kernel_rfl
theorem l5:BK Tryz.prog 30 2=some (2,1,none):=by kernel_rfl
theorem jZ:Qh Tryz.prog 30 2=some (2,1):=by kernel_rfl
theorem l6:BK Tryz.prog 30 3=some (3,1,none):=by kernel_rfl
theorem ka:Qh Tryz.prog 30 3=some (3,1):=by kernel_rfl
theorem l7:BK Tryz.prog 30 4=some (4,1,none):=by kernel_rfl
theorem kc:Qh Tryz.prog 30 4=some (4,1):=by kernel_rfl
theorem l8:BK Tryz.prog 30 5=some (5,4,some 4):=by kernel_rfl
theorem ke:Qh Tryz.prog 30 5=some (5,4):=by kernel_rfl
theorem l9:BK Tryz.prog 30 6=some (9,4,some 4):=by kernel_rfl
theorem kf:Qh Tryz.prog 30 6=some (9,4):=by kernel_rfl
theorem lc:BK Tryz.prog 30 7=some (13,4,some 4):=by kernel_rfl
theorem kg:Qh Tryz.prog 30 7=some (13,4):=by kernel_rfl
theorem ld:BK Tryz.prog 30 8=some (17,4,some 4):=by kernel_rfl
theorem kh:Qh Tryz.prog 30 8=some (17,4):=by kernel_rfl
theorem lf:BK Tryz.prog 30 9=some (21,4,some 4):=by kernel_rfl
theorem ki:Qh Tryz.prog 30 9=some (21,4):=by kernel_rfl
theorem rs:ZM Tryz.prog 30=true:=by kernel_rfl
theorem nm:Qo Tryz.prog 30=some [.int .i64 0,.int .i64 0,.sl 0 0 (fun _=>.any) true,.sl 0 0 (fun _=>.any) true,.sl 0 0 (fun _=>.any) true,.bool false,.sl 0 0 (fun _=>.any) true,.bool false,.sl 0 0 (fun _=>.any) true,.bool false,.sl 0 0 (fun _=>.any) true,.bool false,.sl 0 0 (fun _=>.any) true,.bool false,.sl 0 0 (fun _=>.any) true,.bool false,.sl 0 0 (fun _=>.any) true,.bool false,.sl 0 0 (fun _=>.any) true,.bool false,.sl 0 0 (fun _=>.any) true,.bool false,.sl 0 0 (fun _=>.any) true,.bool false,.sl 0 0 (fun _=>.any) true]:=by kernel_rfl
theorem rI:AH Tryz.prog 35=some (28,4,64):=by kernel_rfl
theorem Do:BL Tryz.prog 48=some (some 8):=by kernel_rfl
theorem mP:Ky Tryz.prog 48=some 8:=by kernel_rfl
theorem lg:BK Tryz.prog 48 0=some (0,4,some 4):=by kernel_rfl
theorem kj:Qh Tryz.prog 48 0=some (0,4):=by kernel_rfl
theorem lh:BK Tryz.prog 48 1=some (4,4,some 4):=by kernel_rfl
theorem kl:Qh Tryz.prog 48 1=some (4,4):=by kernel_rfl
theorem rt:ZM Tryz.prog 48=true:=by kernel_rfl
theorem nn:Qo Tryz.prog 48=some [.bool false,.sl 0 0 (fun _=>.any) true,.bool false,.sl 0 0 (fun _=>.any) true,.bool false,.sl 0 0 (fun _=>.any) true,.bool false,.sl 0 0 (fun _=>.any) true]:=by kernel_rfl
theorem Jh:BL Tryz.prog 50=some (some 8):=by kernel_rfl
theorem mQ:Ky Tryz.prog 50=some 8:=by kernel_rfl
theorem li:BK Tryz.prog 50 0=some (0,4,some 4):=by kernel_rfl
theorem ko:Qh Tryz.prog 50 0=some (0,4):=by kernel_rfl
theorem lj:BK Tryz.prog 50 1=some (4,4,some 4):=by kernel_rfl
theorem kp:Qh Tryz.prog 50 1=some (4,4):=by kernel_rfl
theorem ru:ZM Tryz.prog 50=true:=by kernel_rfl
theorem np:Qo Tryz.prog 50=some [.bool false,.sl 0 0 (fun _=>.any) true,.bool false,.sl 0 0 (fun _=>.any) true,.bool false,.sl 0 0 (fun _=>.any) true,.bool false,.sl 0 0 (fun _=>.any) true]:=by kernel_rfl
theorem MQ:BL Tryz.prog 52=some (some 29):=by kernel_rfl
theorem mR:Ky Tryz.prog 52=some 29:=by kernel_rfl
theorem lk:BK Tryz.prog 52 0=some (0,1,none):=by kernel_rfl
theorem ll:BK Tryz.prog 52 1=some (1,1,none):=by kernel_rfl
theorem kq:Qh Tryz.prog 52 1=some (1,1):=by kernel_rfl
theorem lm:BK Tryz.prog 52 2=some (2,1,none):=by kernel_rfl
theorem kr:Qh Tryz.prog 52 2=some (2,1):=by kernel_rfl
theorem ln:BK Tryz.prog 52 3=some (3,1,none):=by kernel_rfl
theorem ku:Qh Tryz.prog 52 3=some (3,1):=by kernel_rfl
theorem ls:BK Tryz.prog 52 4=some (4,1,none):=by kernel_rfl
theorem kv:Qh Tryz.prog 52 4=some (4,1):=by kernel_rfl
theorem lu:BK Tryz.prog 52 5=some (5,8,some 8):=by kernel_rfl
theorem kw:Qh Tryz.prog 52 5=some (5,8):=by kernel_rfl
theorem lx:BK Tryz.prog 52 6=some (13,8,some 8):=by kernel_rfl
theorem lz:BK Tryz.prog 52 7=some (21,8,some 8):=by kernel_rfl
theorem ry:ZM Tryz.prog 52=true:=by kernel_rfl
theorem nq:Qo Tryz.prog 52=some [.int .i64 0,.int .i64 0,.int .i64 0,.int .i64 0,.int .i64 0,.bool false,.sl 0 0 (fun _=>.any) true,.bool false,.sl 0 0 (fun _=>.any) true,.bool false,.sl 0 0 (fun _=>.any) true,.bool false,.sl 0 0 (fun _=>.any) true,.bool false,.sl 0 0 (fun _=>.any) true,.bool false,.sl 0 0 (fun _=>.any) true,.bool false,.sl 0 0 (fun _=>.any) true,.bool false,.sl 0 0 (fun _=>.any) true,.bool false,.sl 0 0 (fun _=>.any) true,.bool false,.sl 0 0 (fun _=>.any) true,.bool false,.sl 0 0 (fun _=>.any) true,.bool false,.sl 0 0 (fun _=>.any) true]:=by kernel_rfl
theorem V1:BL Tryz.prog 54=some (some 79):=by kernel_rfl
theorem mS:Ky Tryz.prog 54=some 79:=by kernel_rfl
theorem lF:BK Tryz.prog 54 0=some (0,25,some 25):=by kernel_rfl
theorem kx:Qh Tryz.prog 54 0=some (0,25):=by kernel_rfl
theorem lG:BK Tryz.prog 54 1=some (25,25,some 25):=by kernel_rfl
theorem ky:Qh Tryz.prog 54 1=some (25,25):=by kernel_rfl
theorem lH:BK Tryz.prog 54 2=some (50,29,some 29):=by kernel_rfl
theorem rz:ZM Tryz.prog 54=true:=by kernel_rfl
theorem nu:Qo Tryz.prog 54=some [.int .i64 0,.int .i64 0,.sl 0 0 (fun _=>.any) true,.sl 0 0 (fun _=>.any) true,.sl 0 0 (fun _=>.any) true,.bool false,.sl 0 0 (fun _=>.any) true,.bool false,.sl 0 0 (fun _=>.any) true,.bool false,.sl 0 0 (fun _=>.any) true,.bool false,.sl 0 0 (fun _=>.any) true,.bool false,.sl 0 0 (fun _=>.any) true,.bool false,.sl 0 0 (fun _=>.any) true,.bool false,.sl 0 0 (fun _=>.any) true,.bool false,.sl 0 0 (fun _=>.any) true,.bool false,.sl 0 0 (fun _=>.any) true,.bool false,.sl 0 0 (fun _=>.any) true,.int .i64 0,.int .i64 0,.sl 0 0 (fun _=>.any) true,.sl 0 0 (fun _=>.any) true,.sl 0 0 (fun _=>.any) true,.bool false,.sl 0 0 (fun _=>.any) true,.bool false,.sl 0 0 (fun _=>.any) true,.bool false,.sl 0 0 (fun _=>.any) true,.bool false,.sl 0 0 (fun _=>.any) true,.bool false,.sl 0 0 (fun _=>.any) true,.bool false,.sl 0 0 (fun _=>.any) true,.bool false,.sl 0 0 (fun _=>.any) true,.bool false,.sl 0 0 (fun _=>.any) true,.bool false,.sl 0 0 (fun _=>.any) true,.bool false,.sl 0 0 (fun _=>.any) true,.int .i64 0,.int .i64 0,.int .i64 0,.int .i64 0,.int .i64 0,.bool false,.sl 0 0 (fun _=>.any) true,.bool false,.sl 0 0 (fun _=>.any) true,.bool false,.sl 0 0 (fun _=>.any) true,.bool false,.sl 0 0 (fun _=>.any) true,.bool false,.sl 0 0 (fun _=>.any) true,.bool false,.sl 0 0 (fun _=>.any) true,.bool false,.sl 0 0 (fun _=>.any) true,.bool false,.sl 0 0 (fun _=>.any) true,.bool false,.sl 0 0 (fun _=>.any) true,.bool false,.sl 0 0 (fun _=>.any) true,.bool false,.sl 0 0 (fun _=>.any) true,.bool false,.sl 0 0 (fun _=>.any) true]:=by kernel_rfl
theorem rJ:AH Tryz.prog 57=some (52,29,424):=by kernel_rfl
theorem rX:BL Tryz.prog 81=some none:=by kernel_rfl
theorem mT:Ky Tryz.prog 81=some 1:=by kernel_rfl
theorem rK:AH Tryz.prog 81=some (50,8,128):=by kernel_rfl
theorem nv:Qo Tryz.prog 81=some [.sl 0 0 (fun _=>.any) true]:=by kernel_rfl
theorem rY:BL Tryz.prog 84=some (some 16):=by kernel_rfl
theorem mU:Ky Tryz.prog 84=some 16:=by kernel_rfl
theorem lI:BK Tryz.prog 84 0=some (0,8,some 8):=by kernel_rfl
theorem kz:Qh Tryz.prog 84 0=some (0,8):=by kernel_rfl
theorem lJ:BK Tryz.prog 84 1=some (8,8,some 8):=by kernel_rfl
theorem kA:Qh Tryz.prog 84 1=some (8,8):=by kernel_rfl
theorem rA:ZM Tryz.prog 84=true:=by kernel_rfl
theorem nw:Qo Tryz.prog 84=some [.bool false,.sl 0 0 (fun _=>.any) true,.bool false,.sl 0 0 (fun _=>.any) true,.bool false,.sl 0 0 (fun _=>.any) true,.bool false,.sl 0 0 (fun _=>.any) true,.bool false,.sl 0 0 (fun _=>.any) true,.bool false,.sl 0 0 (fun _=>.any) true,.bool false,.sl 0 0 (fun _=>.any) true,.bool false,.sl 0 0 (fun _=>.any) true]:=by kernel_rfl
theorem fo:BL Tryz.prog 110=some (some 2):=by kernel_rfl
theorem ii:Ky Tryz.prog 110=some 2:=by kernel_rfl
theorem ep:BK Tryz.prog 110 0=some (0,1,none):=by kernel_rfl
theorem cK:Qh Tryz.prog 110 0=some (0,1):=by kernel_rfl
theorem eu:BK Tryz.prog 110 1=some (1,1,none):=by kernel_rfl
theorem cL:Qh Tryz.prog 110 1=some (1,1):=by kernel_rfl
theorem oW:ZM Tryz.prog 110=true:=by kernel_rfl
theorem mA:U9 Tryz.prog 110 2=true:=by kernel_rfl
theorem iN:Qo Tryz.prog 110=some [.int .i64 0,.int .i64 0]:=by kernel_rfl
theorem fp:BL Tryz.prog 114=some (some 20):=by kernel_rfl
theorem ij:Ky Tryz.prog 114=some 20:=by kernel_rfl
theorem pr:AH Tryz.prog 114=none:=by kernel_rfl
theorem cM:Qh Tryz.prog 114 0=some (0,4):=by kernel_rfl
theorem cN:Qh Tryz.prog 114 1=some (4,4):=by kernel_rfl
theorem cO:Qh Tryz.prog 114 2=some (8,4):=by kernel_rfl
theorem cQ:Qh Tryz.prog 114 3=some (12,4):=by kernel_rfl
theorem cR:Qh Tryz.prog 114 4=some (16,4):=by kernel_rfl
theorem oX:ZM Tryz.prog 114=true:=by kernel_rfl
theorem oM:T5 Tryz.prog 114=some (5,4,some 4):=by kernel_rfl
theorem iO:Qo Tryz.prog 114=some [.bool false,.sl 0 0 (fun _=>.any) true,.bool false,.sl 0 0 (fun _=>.any) true,.bool false,.sl 0 0 (fun _=>.any) true,.bool false,.sl 0 0 (fun _=>.any) true,.bool false,.sl 0 0 (fun _=>.any) true,.bool false,.sl 0 0 (fun _=>.any) true,.bool false,.sl 0 0 (fun _=>.any) true,.bool false,.sl 0 0 (fun _=>.any) true,.bool false,.sl 0 0 (fun _=>.any) true,.bool false,.sl 0 0 (fun _=>.any) true]:=by kernel_rfl
theorem pR:BL Tryz.prog 120=some none:=by kernel_rfl
theorem il:Ky Tryz.prog 120=some 1:=by kernel_rfl
theorem pt:AH Tryz.prog 120=some (183,3,24):=by kernel_rfl
theorem iP:Qo Tryz.prog 120=some [.sl 0 0 (fun _=>.any) true]:=by kernel_rfl
theorem pS:BL Tryz.prog 122=some (some 2):=by kernel_rfl
theorem im:Ky Tryz.prog 122=some 2:=by kernel_rfl
theorem pu:AH Tryz.prog 122=none:=by kernel_rfl
theorem cS:Qh Tryz.prog 122 0=some (0,1):=by kernel_rfl
theorem cT:Qh Tryz.prog 122 1=some (1,1):=by kernel_rfl
theorem oY:ZM Tryz.prog 122=true:=by kernel_rfl
theorem oN:T5 Tryz.prog 122=some (2,1,none):=by kernel_rfl
theorem iQ:Qo Tryz.prog 122=some [.int .i64 0,.int .i64 0]:=by kernel_rfl
theorem pv:AH Tryz.prog 123=some (122,2,16):=by kernel_rfl
theorem pT:BL Tryz.prog 125=some (some 3):=by kernel_rfl
theorem cU:Qh Tryz.prog 125 0=some (0,1):=by kernel_rfl
theorem cV:Qh Tryz.prog 125 1=some (1,1):=by kernel_rfl
theorem cW:Qh Tryz.prog 125 2=some (2,1):=by kernel_rfl
theorem oZ:ZM Tryz.prog 125=true:=by kernel_rfl
theorem mB:U9 Tryz.prog 125 3=true:=by kernel_rfl
theorem iR:Qo Tryz.prog 125=some [.int .i64 0,.int .i64 0,.int .i64 0]:=by kernel_rfl
theorem pz:AH Tryz.prog 126=some (125,3,24):=by kernel_rfl
theorem pA:AH Tryz.prog 148=some (48,8,128):=by kernel_rfl
theorem pU:BL Tryz.prog 181=some none:=by kernel_rfl
theorem io:Ky Tryz.prog 181=some 1:=by kernel_rfl
theorem lQ:L4 Tryz.prog 181=some (3,3):=by kernel_rfl
theorem iS:Qo Tryz.prog 181=some [.nilmap]:=by kernel_rfl
theorem ez:BK Tryz.prog 183 0=some (0,1,none):=by kernel_rfl
theorem cZ:Qh Tryz.prog 183 0=some (0,1):=by kernel_rfl
theorem eD:BK Tryz.prog 183 1=some (1,1,none):=by kernel_rfl
theorem d7:Qh Tryz.prog 183 1=some (1,1):=by kernel_rfl
theorem eE:BK Tryz.prog 183 2=some (2,1,none):=by kernel_rfl
theorem d8:Qh Tryz.prog 183 2=some (2,1):=by kernel_rfl
theorem p5:ZM Tryz.prog 183=true:=by kernel_rfl
theorem iT:Qo Tryz.prog 183=some [.int .i64 0,.int .i64 0,.int .i64 0]:=by kernel_rfl
theorem pV:BL Tryz.prog 191=some none:=by kernel_rfl
theorem pB:AH Tryz.prog 191=some (81,1,24):=by kernel_rfl
theorem pN:OA Tryz.prog 197=some .u64:=by kernel_rfl
theorem pC:AH Tryz.prog 241=some (244,3,24):=by kernel_rfl
theorem fq:BL Tryz.prog 244=some (some 3):=by kernel_rfl
theorem ip:Ky Tryz.prog 244=some 3:=by kernel_rfl
theorem pD:AH Tryz.prog 244=none:=by kernel_rfl
theorem d9:Qh Tryz.prog 244 0=some (0,1):=by kernel_rfl
theorem dc:Qh Tryz.prog 244 1=some (1,1):=by kernel_rfl
theorem dd:Qh Tryz.prog 244 2=some (2,1):=by kernel_rfl
theorem p6:ZM Tryz.prog 244=true:=by kernel_rfl
theorem oO:T5 Tryz.prog 244=some (3,1,none):=by kernel_rfl
theorem iU:Qo Tryz.prog 244=some [.int .i64 0,.int .i64 0,.int .i64 0]:=by kernel_rfl
theorem pW:BL Tryz.prog 249=some none:=by kernel_rfl
theorem eF:BK Tryz.prog 252 0=some (0,1,none):=by kernel_rfl
theorem de:Qh Tryz.prog 252 0=some (0,1):=by kernel_rfl
theorem eG:BK Tryz.prog 252 1=some (1,1,none):=by kernel_rfl
theorem p7:ZM Tryz.prog 252=true:=by kernel_rfl
theorem iV:Qo Tryz.prog 252=some [.sl 0 0 (fun _=>.any) true,.sl 0 0 (fun _=>.any) true]:=by kernel_rfl
theorem O2:BL Tryz.prog 255=some (some 1):=by kernel_rfl
theorem iq:Ky Tryz.prog 255=some 1:=by kernel_rfl
theorem eH:BK Tryz.prog 255 0=some (0,1,none):=by kernel_rfl
theorem iW:Qo Tryz.prog 255=some [.sl 0 0 (fun _=>.any) true]:=by kernel_rfl
theorem mixed:Tryz.prog.follows .mixedOrders=true:=by kernel_rfl
theorem Fq {f:FuncId} {fn:Func} {body:Code} {args:List AV} {r:AV} (he:Bn Tryz.prog f) (hf:Tryz.prog.funcs[f]?=some fn) (n0:Nat) (hid str hcs:List Nat) (hs:∀ a∈args,Settled a) (h:Run (Qn Tryz.prog fn str hcs r) [.code body] (AS.start n0 hid args [])) (hb:fn.body=some body:=by rfl) (hok:QF fn.ntmps str hcs body=true:=by kernel_rfl) (hlen:args.length≤fn.ntmps:=by exact Nat.le_of_ble_eq_true rfl):Fn Tryz.prog f args r:=Fn.intro he hf hb mixed n0 hid str hcs hok hlen hs h
set_option linter.defProp false in
def qP:=And.intro @sY <| And.intro @qF <| And.intro @sW <| And.intro @qQ <| And.intro @qS <| And.intro @sZ <| And.intro @qG <| And.intro @p8 <| And.intro @qR <| And.intro @rU <| And.intro @mJ <| And.intro @gU <| And.intro @nH <| And.intro @rV <| And.intro @mK <| And.intro @gV <| And.intro @rG <| And.intro @rW <| And.intro @mL <| And.intro @gW <| And.intro @rH <| And.intro @XP <| And.intro @mM <| And.intro @kU <| And.intro @jT <| And.intro @kV <| And.intro @jU <| And.intro @rq <| And.intro @ne <| And.intro @Qb <| And.intro @mN <| And.intro @kW <| And.intro @jV <| And.intro @kX <| And.intro @jW <| And.intro @rr <| And.intro @nk <| And.intro @MP <| And.intro @mO <| And.intro @kY <| And.intro @jX <| And.intro @kZ <| And.intro @jY <| And.intro @l5 <| And.intro @jZ <| And.intro @l6 <| And.intro @ka <| And.intro @l7 <| And.intro @kc <| And.intro @l8 <| And.intro @ke <| And.intro @l9 <| And.intro @kf <| And.intro @lc <| And.intro @kg <| And.intro @ld <| And.intro @kh <| And.intro @lf <| And.intro @ki <| And.intro @rs <| And.intro @nm <| And.intro @rI <| And.intro @Do <| And.intro @mP <| And.intro @lg <| And.intro @kj <| And.intro @lh <| And.intro @kl <| And.intro @rt <| And.intro @nn <| And.intro @Jh <| And.intro @mQ <| And.intro @li <| And.intro @ko <| And.intro @lj <| And.intro @kp <| And.intro @ru <| And.intro @np <| And.intro @MQ <| And.intro @mR <| And.intro @lk <| And.intro @ll <| And.intro @kq <| And.intro @lm <| And.intro @kr <| And.intro @ln <| And.intro @ku <| And.intro @ls <| And.intro @kv <| And.intro @lu <| And.intro @kw <| And.intro @lx <| And.intro @lz <| And.intro @ry <| And.intro @nq <| And.intro @V1 <| And.intro @mS <| And.intro @lF <| And.intro @kx <| And.intro @lG <| And.intro @ky <| And.intro @lH <| And.intro @rz <| And.intro @nu <| And.intro @rJ <| And.intro @rX <| And.intro @mT <| And.intro @rK <| And.intro @nv <| And.intro @rY <| And.intro @mU <| And.intro @lI <| And.intro @kz <| And.intro @lJ <| And.intro @kA <| And.intro @rA <| And.intro @nw <| And.intro @fo <| And.intro @ii <| And.intro @ep <| And.intro @cK <| And.intro @eu <| And.intro @cL <| And.intro @oW <| And.intro @mA <| And.intro @iN <| And.intro @fp <| And.intro @ij <| And.intro @pr <| And.intro @cM <| And.intro @cN <| And.intro @cO <| And.intro @cQ <| And.intro @cR <| And.intro @oX <| And.intro @oM <| And.intro @iO <| And.intro @pR <| And.intro @il <| And.intro @pt <| And.intro @iP <| And.intro @pS <| And.intro @im <| And.intro @pu <| And.intro @cS <| And.intro @cT <| And.intro @oY <| And.intro @oN <| And.intro @iQ <| And.intro @pv <| And.intro @pT <| And.intro @cU <| And.intro @cV <| And.intro @cW <| And.intro @oZ <| And.intro @mB <| And.intro @iR <| And.intro @pz <| And.intro @pA <| And.intro @pU <| And.intro @io <| And.intro @lQ <| And.intro @iS <| And.intro @ez <| And.intro @cZ <| And.intro @eD <| And.intro @d7 <| And.intro @eE <| And.intro @d8 <| And.intro @p5 <| And.intro @iT <| And.intro @pV <| And.intro @pB <| And.intro @pN <| And.intro @pC <| And.intro @fq <| And.intro @ip <| And.intro @pD <| And.intro @d9 <| And.intro @dc <| And.intro @dd <| And.intro @p6 <| And.intro @oO <| And.intro @iU <| And.intro @pW <| And.intro @eF <| And.intro @de <| And.intro @eG <| And.intro @p7 <| And.intro @iV <| And.intro @O2 <| And.intro @iq <| And.intro @eH <| @iW
set_option linter.defProp false in
def wA:=And.intro @su <| And.intro @ss <| And.intro @sr <| And.intro @beq_self_eq_true.{0} <| And.intro @ite_true.{1} <| And.intro @ite_false.{1} <| And.intro @false_implies <| And.intro @true_implies <| And.intro @implies_true.{1} <| And.intro @implies_true.{0} <| And.intro @eq_self.{1} <| And.intro @ne_eq.{1} <| @qP
end Go.Ab.N
namespace Go.Ab.N
open Go Go.RowKit Go.Proofs
noncomputable section
set_option maxRecDepth 10000
set_option maxHeartbeats 2000000
open Classical
def fO (neg:Bool) (l:List Int):AV:=.agg [.bool (neg && decide (A4 l l.length≠0)),X8 (l.take (A4 l l.length))]
theorem JW (neg:Bool) (l:List Int):Settled (fO neg l):=Qd (by simp [X7,X3])
theorem s8 (neg:Bool) (d:List Int) (hl:d.length<4611686018427387904):Fn Tryz.prog 208 [.bool neg,X8 d] (fO neg d):=by
 refine Fq Tryz.call208 Tryz.func208 6 [] [] [] (by simp [X7,X9,JU,Jc,X3,JV,XE,JW,Jx]) (X1 1000 ?_); simp (config:={ maxSteps:=2000000 }) only [AS.start,↓X2,wA,seval,zA,wN]
 refine Xe (fun n:Nat=>⟨6,[],[.bool neg,X8 d,.any,.any,.ref 0 0 0,I n],[],[.row 0 2 (Xq [.bool false,.sl 0 0 (fun _=>.any) true])]⟩) (fun n=>n≤d.length∧A4 d d.length=A4 d n) (fun n=>n) d.length ⟨by omega,rfl⟩
  (Xa rfl (by simp [zA,wN,Xh,X8,Ci,Jw,Qk,I]) (by simp [Xi]) rfl) ?_
 rintro n ⟨hn,ht⟩ next
 cases n with
 | zero =>
  refine X1 1000 ?_
  simp only [Int.lt_irrefl,↓X2,wA,seval,zA,wN]
  refine BF (v:=.agg [.bool false,.sl 0 0 (fun _=>.any) false]) rfl (by simp [AS.get,Jv,XP,rd,Qm,Xq,ZU]) ?_
  have e:fO neg d=.agg [.bool false,X8 []]:=by unfold fO; rw [ht]; simp [A4]
  rw [e]
  exact ZZ ⟨QC (X3 _) rfl,Xr (X7 _) (Ql _ _),trivial⟩
 | succ n =>
  have e0:(0<((n+1:Nat):Int))=True:=eq_true (by omega)
  have e1:(((n+1:Nat):Int)=0)=False:=eq_false (by omega)
  have w1:IntKind.i64.wrap (((n+1:Nat):Int) - 1)=(n:Int):=by rw [IntKind.wrap_i64]; omega
  have e2:(n<d.length)=True:=eq_true (by omega)
  refine X1 1000 ?_
  simp only [e0,e1,e2,w1,↓X2,wA,seval,zA,wN]
  refine ⟨fun h0=>next n _ ⟨by omega,by rw [ht]; simp only [A4]; rw [if_pos h0]⟩ (by omega) (Xa rfl (by simp [zA,wN,Xh,X8,Ci,Jw,Qk,I]) (by simp [Xi]) rfl),fun h0=>⟨by omega,?_⟩⟩
  have ht2:A4 d d.length=n+1:=by rw [ht]; simp only [A4]; rw [if_neg h0]
  have e:fO neg d=.agg [.bool neg,X8 (d.take (n+1))]:=by unfold fO; rw [ht2]; simp
  have hlen:(d.take (n+1)).length=n+1:=by rw [List.length_take]; omega
  rw [e]
  refine BF (v:=.agg [.bool neg,.sl (n+1) (n+1) (fun j=>.int .i64 (d.getD j 0)) false]) rfl ?_ ?_
  ·have m1:min (n+1) d.length=n+1:=by omega
   simp [AS.get,Jv,XP,rd,Qm,Xq,ZU,m1]
  ·refine ZZ ⟨QC (X3 _) rfl,Xr (X7 _) (Gj _ hlen.symm (by omega) fun j hj=>?_),trivial⟩
   rw [hlen] at hj
   rw [Bj d 0 j (n+1) hj]; rfl
set_option linter.defProp false in
def K6:=And.intro @X7 (And.intro @X9 (And.intro @JU (And.intro @Jc (And.intro @X3 (And.intro @JV (And.intro @XE (And.intro @JW @Jx)))))))
theorem iM (neg:Bool) {u:Int} (h:0≤u):zA (Ku neg u)=.agg [.bool (neg && decide (u≠0)),X8 (Xb u.toNat)]:=by
 unfold zA
 have e1:(Ku neg u).natAbs=u.toNat:=by unfold Ku; split <;> omega
 rw [e1]
 congr 3
 unfold Ku
 have h0':¬ u<0:=by omega
 cases neg
 ·simp [h0']
 ·have:-u<0↔¬ u=0:=by omega
  simp only [if_true,Bool.true_and,decide_eq_decide,ne_eq]
  exact this
def U (n:Int):AV:=.int .u64 n
theorem KU (neg:Bool) (u:Int) (h0:0≤u) (h1:u<18446744073709551616):Fn Tryz.prog 207 [.bool neg,.int .u64 u] (zA (Ku neg u)):=by
 obtain ⟨R,hR⟩:∃ R,R=zA (Ku neg u):=⟨_,rfl⟩
 have eR:=hR.trans (iM neg h0)
 have sR:Settled R:=hR▸XE _
 have b1:u≠0→(neg && decide (u≠0))=neg:=fun h=>by simp [h]
 have w1:IntKind.i64.wrap (u.tmod 1000000000)=u % 1000000000:=by rw [IntKind.wrap_i64,Int.tmod_eq_emod_of_nonneg h0]; omega
 have w2:IntKind.u64.wrap (u.tdiv 1000000000)=u / 1000000000:=by rw [IntKind.wrap_u64,Int.tdiv_eq_ediv_of_nonneg h0]; omega
 have h2:0≤u / 1000000000:=by omega
 have w3:IntKind.i64.wrap (u / 1000000000)=u / 1000000000:=by rw [IntKind.wrap_i64]; omega
 have w4:IntKind.i64.wrap ((u / 1000000000).tmod 1000000000)=u / 1000000000 % 1000000000:=by rw [IntKind.wrap_i64,Int.tmod_eq_emod_of_nonneg h2]; omega
 have w5:IntKind.u64.wrap ((u / 1000000000).tdiv 1000000000)=u / 1000000000 / 1000000000:=by rw [IntKind.wrap_u64,Int.tdiv_eq_ediv_of_nonneg h2]; omega
 have w6:IntKind.i64.wrap (u / 1000000000 / 1000000000)=u / 1000000000 / 1000000000:=by rw [IntKind.wrap_i64]; omega
 rw [← hR]
 refine Fq Tryz.call207 Tryz.func207 6 [] [] [] (by simp [K6]) (X1 1000 ?_); simp (config:={ maxSteps:=2000000 }) only [AS.start,↓X2,wA,↓reduceIte,reduceIte,reduceCtorEq,Y1,Y2,Y3,Y4,Y5,Y6,Y7,Y8,Y9,YA,zA,wN]
 simp only [w1,w2,w3,w4,w5,w6]
 refine ⟨fun a=>?_,fun a0=>⟨fun a1=>?_,fun a1=>⟨fun a2=>⟨by omega,by omega,?_⟩,fun a2=>⟨by omega,by omega,by omega,by omega,by omega,?_⟩⟩⟩⟩
 ·rw [a,show (neg && decide ((0:Int)≠0))=false by simp,show (0:Int).toNat=0 from rfl,XZ] at eR
  exact Qe rfl XP rfl rfl rfl eR sR ⟨Weak.rfl' _,Ql _ _,trivial⟩
 ·have w0:IntKind.i64.wrap u=u:=by rw [IntKind.wrap_i64]; omega
  rw [b1 a0,IE (by omega) (by omega),Int.toNat_of_nonneg h0] at eR
  rw [w0]
  exact Qe rfl XP rfl rfl rfl eR sR ⟨Weak.rfl' _,ZJ rfl rfl,trivial⟩
 ·rw [b1 a0,Po (by omega) (by omega)] at eR
  have e1:((u.toNat % 1000000000:Nat):Int)=u % 1000000000:=by omega
  have e2:((u.toNat / 1000000000:Nat):Int)=u / 1000000000:=by omega
  rw [e1,e2] at eR
  exact Qe rfl XP rfl rfl rfl eR sR ⟨Weak.rfl' _,ZJ rfl rfl,trivial⟩
 ·rw [b1 a0,Tm (by omega) (by omega)] at eR
  have e1:((u.toNat % 1000000000:Nat):Int)=u % 1000000000:=by omega
  have e2:((u.toNat / 1000000000 % 1000000000:Nat):Int)=u / 1000000000 % 1000000000:=by omega
  have e3:((u.toNat / 1000000000 / 1000000000:Nat):Int)=u / 1000000000 / 1000000000:=by omega
  rw [e1,e2,e3] at eR
  exact Qe rfl XP rfl rfl rfl eR sR ⟨Weak.rfl' _,ZJ rfl rfl,trivial⟩
theorem O3 (z:Int):Fn Tryz.prog 196 [zA z] (zA (-z)):=by
 have e:(-z).natAbs=z.natAbs:=by omega
 have e0:z.natAbs=0↔z=0:=by omega
 have e1:(Xb z.natAbs).length=0↔z=0:=digs_len_zero.trans e0
 refine Fq Tryz.call196 Tryz.func196 3 [] [] [] (by simp [K6]) (X1 1000 ?_); simp (config:={ maxSteps:=2000000 }) only [AS.start,↓X2,wA,↓reduceIte,reduceIte,reduceCtorEq,Y1,Y2,Y3,Y4,Y5,Y6,Y7,Y8,Y9,YA,zA,wN]
 refine ⟨fun h=>Qe rfl XP rfl rfl rfl rfl (XE _) ?_,fun h=>Qe rfl XP rfl rfl rfl rfl (XE _) ?_⟩
 ·rw [e]
  have:decide (-z<0)=decide (0<((Xb z.natAbs).length:Int)):=by rw [decide_eq_decide]; omega
  rw [this]
  exact ⟨Weak.rfl' _,Weak.rfl' _,trivial⟩
 ·rw [e,show decide (-z<0)=false from decide_eq_false (by omega)]
  exact ⟨Weak.rfl' _,Weak.rfl' _,trivial⟩
theorem mD (z:Int):Fn Tryz.prog 155 [zA z] (I z.sign):=by
 have e0:z.natAbs=0↔z=0:=by omega
 have e1:(Xb z.natAbs).length=0↔z=0:=digs_len_zero.trans e0
 refine Fq Tryz.call155 Tryz.func155 4 [] [] [] (by simp [K6]) (X1 1000 ?_); simp (config:={ maxSteps:=2000000 }) only [AS.start,↓X2,wA,↓reduceIte,reduceIte,reduceCtorEq,Y1,Y2,Y3,Y4,Y5,Y6,Y7,Y8,Y9,YA,zA,wN]
 refine ⟨fun h=>Xs rfl rfl (X9 _) ?_,fun h=>⟨fun h2=>Xs rfl rfl (X9 _) ?_,fun h2=>Xs rfl rfl (X9 _) ?_⟩⟩
 ·rw [Int.sign_eq_neg_one_of_neg h]; rfl
 ·rw [e1.1 (by omega)]; rfl
 ·rw [Int.sign_eq_one_of_pos (by omega)]; rfl
theorem Ov (d:List Int) (h:Jg d):Fn Tryz.prog 226 [X8 d] (.tup [I (if d.length≤2 then val d else 0),.bool (decide (d.length≤2))]):=by
 have k2:¬ d.length≤2→I 0=I (if d.length≤2 then val d else 0)∧AV.bool false=.bool (decide (d.length≤2)):=fun h=>by simp [h]
 have k1:d.length≤2→∀ x,x=val d→I x=I (if d.length≤2 then val d else 0)∧AV.bool true=.bool (decide (d.length≤2)):=fun h x hx=>by simp [h,hx]
 refine Fq Tryz.call226 Tryz.func226 4 [5] [] [] (by simp [K6]) (X1 1000 ?_); simp (config:={ maxSteps:=2000000 }) only [AS.start,↓X2,wA,↓reduceIte,reduceIte,reduceCtorEq,Y1,Y2,Y3,Y4,Y5,Y6,Y7,Y8,Y9,YA,zA,wN]
 have fin:∀ {s:AS} {x:Int},s.get 2=I x→s.get 3=.bool true→d.length≤2→x=val d→RetOk (Qn Tryz.prog Tryz.f226 [] [] (.tup [I (if d.length≤2 then val d else 0),.bool (decide (d.length≤2))])) s:=fun h1 h2 hl hx =>
  RE rfl h1 h2 (X9 _) (X3 _) (k1 hl _ hx).1 (k1 hl _ hx).2
 refine ⟨fun a=>fin rfl rfl (by omega) ?_,fun a0=>⟨fun a=>⟨by omega,by omega,fin rfl rfl (by omega) ?_⟩,fun a1=>⟨fun a=>⟨⟨by omega,by omega⟩,by omega,by omega,by omega,fin rfl rfl (by omega) ?_⟩,fun a2=>RE rfl rfl rfl (X9 _) (X3 _) (k2 (by omega)).1 (k2 (by omega)).2⟩⟩⟩
 ·obtain rfl:d=[]:=List.length_eq_zero_iff.1 (by omega)
  rfl
 ·obtain ⟨x,rfl⟩:=List.length_eq_one_iff.1 (show d.length=1 by omega)
  simp [val]
 ·obtain ⟨x,y,rfl⟩:∃ x y,d=[x,y]:=by
   match d,a with
   | [x,y],_=>exact ⟨x,y,rfl⟩
   | [],h=>exact absurd h (by simp)
   | [_],h=>exact absurd h (by simp)
   | _ :: _ :: _ :: _,h=>exact absurd h (by simp; omega)
  have h1:=h x (by simp)
  have h2:=h y (by simp)
  unfold Q0 at h1 h2
  simp only [List.getD_cons_zero,List.getD_cons_succ,val,IntKind.wrap_i64]
  omega
theorem PR (a:Int):Fn Tryz.prog 267 [I a] (.bool false):=by
 refine Fq Tryz.call267 Tryz.func267 3 [] [] [] (by simp [K6]) (X1 1000 ?_); simp (config:={ maxSteps:=2000000 }) only [AS.start,↓X2,wA,↓reduceIte,reduceIte,reduceCtorEq,Y1,Y2,Y3,Y4,Y5,Y6,Y7,Y8,Y9,YA,zA,wN]
 exact Xs rfl rfl (X3 _) rfl
theorem UG (a b:Int):Fn Tryz.prog 249 [I a,I b] (I (a - b).sign):=by
 refine Fq Tryz.call249 Tryz.func249 7 [] [] [] (by simp [K6]) (X1 1000 ?_); simp (config:={ maxSteps:=2000000 }) only [AS.start,↓X2,wA,↓reduceIte,reduceIte,reduceCtorEq,Y1,Y2,Y3,Y4,Y5,Y6,Y7,Y8,Y9,YA,zA,wN]
 refine X0 (PR a) rfl ?_
 simp only [↓X2,wA,↓reduceIte,reduceIte,reduceCtorEq,Y1,Y2,Y3,Y4,Y5,Y6,Y7,Y8,Y9,YA,zA,wN]
 refine X0 (PR b) rfl ?_
 simp only [↓X2,wA,↓reduceIte,reduceIte,reduceCtorEq,Y1,Y2,Y3,Y4,Y5,Y6,Y7,Y8,Y9,YA,zA,wN]
 refine ⟨fun h=>Xs rfl rfl (X9 _) ?_,fun h=>⟨fun h2=>Xs rfl rfl (X9 _) ?_,fun h2=>Xs rfl rfl (X9 _) ?_⟩⟩
 ·rw [Int.sign_eq_neg_one_of_neg (by omega)]; rfl
 ·rw [Int.sign_eq_one_of_pos (by omega)]; rfl
 ·rw [show a - b=0 by omega]; rfl
theorem dw {a b:List Int} (ha:Jg a) (hb:Jg b) (hl:a.length=b.length) {i:Nat} (hi:i<a.length) (he:a.drop (i+1)=b.drop (i+1)) (hne:a.getD i 0≠b.getD i 0) :
  (val a - val b).sign=(a.getD i 0 - b.getD i 0).sign:=by
 rw [Jn a i (by omega),Jn b i (by omega),Kg a i hi,Kg b i (by omega),he]
 have h1:=XU (QL ha i)
 have h2:=XU (QL hb i)
 have h3:=Za (QL ha i)
 have h4:=Za (QL hb i)
 have e1:(a.take i).length=i:=by rw [List.length_take]; omega
 have e2:(b.take i).length=i:=by rw [List.length_take]; omega
 rw [e1] at h3
 rw [e2] at h4
 generalize val (a.take i)=p at *
 generalize val (b.take i)=q at *
 generalize val (b.drop (i+1))=r at *
 generalize a.getD i 0=x at *
 generalize b.getD i 0=y at *
 have hp:=JM i
 generalize pw i=P at *
 have e:p+P*(x+1000000000*r) - (q+P*(y+1000000000*r))=(p - q)+P*(x - y):=by grind
 rw [e]
 rcases Int.lt_or_gt_of_ne hne with h | h
 ·rw [Int.sign_eq_neg_one_of_neg (show x - y<0 by omega)]
  have:P*(x - y)≤P*(-1):=Int.mul_le_mul_of_nonneg_left (by omega) (by omega)
  exact Int.sign_eq_neg_one_of_neg (by omega)
 ·rw [Int.sign_eq_one_of_pos (show 0<x - y by omega)]
  have:P*1≤P*(x - y):=Int.mul_le_mul_of_nonneg_left (by omega) (by omega)
  exact Int.sign_eq_one_of_pos (by omega)
theorem De {a b:List Int} (ha:ZO a) (hb:ZO b) (h:a.length<b.length):val a<val b:=by
 have h1:=Za ha.1
 have hne:b≠[]:=fun e=>by rw [e] at h; simp at h
 have h2:=Ce hb hne
 have h3:=CJ (show a.length≤b.length - 1 by omega)
 omega
theorem Fp {a b:List Int} (hl:a.length=b.length) {i:Nat} (hi:i<a.length) (he:a.drop (i+1)=b.drop (i+1)) (h:a.getD i 0=b.getD i 0):a.drop i=b.drop i:=by
 have hi2:i<b.length:=by omega
 rw [List.drop_eq_getElem_cons hi,List.drop_eq_getElem_cons hi2,he]
 rw [List.getD_eq_getElem?_getD,List.getElem?_eq_getElem hi,List.getD_eq_getElem?_getD,List.getElem?_eq_getElem hi2] at h
 simp only [Option.getD_some] at h
 rw [h]
theorem Cx (a b:List Int) (ha:ZO a) (hb:ZO b) (la:a.length<4611686018427387904):Fn Tryz.prog 215 [X8 a,X8 b] (I (val a - val b).sign):=by
 have hc:a.length≠b.length→Fn Tryz.prog 249 [I a.length,I b.length] (I (val a - val b).sign):=fun h=>by
  have e:((a.length:Int) - b.length).sign=(val a - val b).sign:=by
   rcases Nat.lt_or_gt_of_ne h with h' | h'
   ·have:=De ha hb h'
    rw [Int.sign_eq_neg_one_of_neg (by omega),Int.sign_eq_neg_one_of_neg (by omega)]
   ·have:=De hb ha h'
    rw [Int.sign_eq_one_of_pos (by omega),Int.sign_eq_one_of_pos (by omega)]
  rw [← e]; exact UG _ _
 refine Fq Tryz.call215 Tryz.func215 6 [] [] [] (by simp [K6]) (X1 1000 ?_); simp (config:={ maxSteps:=2000000 }) only [AS.start,↓X2,wA,seval,zA,wN]
 refine ⟨fun h=>X0 (hc h) rfl ?_,fun hl=>?_⟩
 ·simp only [↓X2,wA,seval,zA,wN]
  exact Xs rfl rfl (X9 _) rfl
 refine Xe (fun k:Nat=>⟨6,[],[X8 a,X8 b,.any,.any,I 0,I ((k:Int) - 1)],[],[]⟩) (fun k=>k≤a.length∧a.drop k=b.drop k) (fun k=>k) a.length ⟨by omega,by rw [List.drop_length,hl,List.drop_length]⟩
  ?_ ?_
 ·have w0:IntKind.i64.wrap ((a.length:Int) - 1)=(a.length:Int) - 1:=by rw [IntKind.wrap_i64]; omega
  rw [w0]
  exact (Xa rfl (by simp [zA,wN,Xh,X8,Ci,Jw,Qk,I]) (by simp [Xi]) rfl)
 rintro k ⟨hk,he⟩ next
 cases k with
 | zero =>
  refine X1 1000 ?_
  have e0:(0≤((0:Nat):Int) - 1)=False:=eq_false (by omega)
  have e1:((0:Int)≤0 - 1)=False:=eq_false (by omega)
  simp only [e0,e1,↓X2,wA,seval,zA,wN]
  refine Xs rfl rfl (X9 _) ?_
  rw [List.drop_zero,List.drop_zero] at he
  rw [he,Int.sub_self]; rfl
 | succ k =>
  have e1:((k+1:Nat):Int) - 1=(k:Int):=by omega
  have w1:IntKind.i64.wrap ((k:Int) - 1)=(k:Int) - 1:=by rw [IntKind.wrap_i64]; omega
  have e2:((k:Int)<a.length)=True:=eq_true (by omega)
  have e3:(k<a.length)=True:=eq_true (by omega)
  have e4:(k<b.length)=True:=eq_true (by omega)
  have hcm:a.getD k 0≠b.getD k 0→Fn Tryz.prog 249 [I (a.getD k 0),I (b.getD k 0)] (I (val a - val b).sign):=fun h=>by
   rw [dw ha.1 hb.1 hl (by omega) he h]; exact UG _ _
  refine X1 1000 ?_
  simp only [e1,w1,e3,e4,↓X2,wA,seval,zA,wN]
  refine ⟨fun h=>X0 (hcm h) rfl ?_,fun h=>next k _ ⟨by omega,Fp hl (by omega) he h⟩ (by omega) (Xa rfl (by simp [zA,wN,Xh,X8,Ci,Jw,Qk,I]) (by simp [Xi]) rfl)⟩
  simp only [↓X2,wA,seval,zA,wN]
  exact Xs rfl rfl (X9 _) rfl
theorem F3 (n:Int) (h:Z4 n):Fn Tryz.prog 148 [I n] (zA n):=by
 obtain ⟨R,hR⟩:∃ R,R=zA n:=⟨_,rfl⟩
 have sR:Settled R:=hR▸XE _
 unfold Z4 at h
 have c1:n<0→Fn Tryz.prog 207 [.bool (decide (n<0)),.int .u64 (IntKind.u64.wrap (0 - IntKind.u64.wrap n))] R:=fun h1=>by
  have e:IntKind.u64.wrap (0 - IntKind.u64.wrap n) = -n:=by rw [IntKind.wrap_u64,IntKind.wrap_u64]; omega
  have e2:Ku (decide (n<0)) (-n)=n:=by unfold Ku; rw [if_pos (decide_eq_true h1)]; omega
  have:=KU (decide (n<0)) (-n) (by omega) (by omega)
  rw [e2] at this
  rw [e,hR]; exact this
 have c2:¬ n<0→Fn Tryz.prog 207 [.bool (decide (n<0)),.int .u64 (IntKind.u64.wrap n)] R:=fun h1=>by
  have e:IntKind.u64.wrap n=n:=by rw [IntKind.wrap_u64]; omega
  have e2:Ku (decide (n<0)) n=n:=by unfold Ku; rw [if_neg (by simp; omega)]
  have:=KU (decide (n<0)) n (by omega) (by omega)
  rw [e2] at this
  rw [e,hR]; exact this
 rw [← hR]
 refine Fq Tryz.call148 Tryz.func148 4 [] [] [] (by simp [K6]) (X1 1000 ?_); simp (config:={ maxSteps:=2000000 }) only [AS.start,↓X2,wA,seval,zA,wN]
 refine ⟨fun h1=>X0 (c1 h1) rfl ?_,fun h1=>X0 (c2 h1) rfl ?_⟩
 ·simp only [hR,↓X2,wA,seval,zA,wN]
  exact Qe rfl XP rfl rfl rfl hR sR ⟨Weak.rfl' _,Weak.rfl' _,trivial⟩
 ·simp only [hR,↓X2,wA,seval,zA,wN]
  exact Qe rfl XP rfl rfl rfl hR sR ⟨Weak.rfl' _,Weak.rfl' _,trivial⟩
end
end Go.Ab.N
