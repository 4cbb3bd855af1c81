/- Contracts of functions of these chapters, for every argument that fits, and what they need. -/
import Derived.Test.YtefjhgcndhepeaaGreatC13
import Derived.Shelf.Small.Bits
import Derived.Test.YtefjhgcndhepeaaGreatC7
import Derived.Test.YtefjhgcndhepeaaGreatC12
import Derived.Test.YtefjhgcndhepeaaGreatC10
import Derived.Test.YtefjhgcndhepeaaGreatC6
import Derived.Test.YtefjhgcndhepeaaGreatC11
import Derived.Test.YtefjhgcndhepeaaGreatC8
set_option linter.unusedSimpArgs false
set_option linter.unusedVariables false
open Nat renaming reducePow → Y1, reduceLT → Y2, reduceLeDiff → Y3, reduceEqDiff → Y4, reduceAdd → Y5, reduceMul → Y6, reduceSub → Y7, reduceBEq → Y8, reduceDiv → Y9, reduceMod → YA
namespace Go.Ab.N
open Go Go.RowKit Go.Proofs
noncomputable section
set_option maxRecDepth 10000
set_option maxHeartbeats 4000000
open Classical
def Sr (t u:V2):Int:=if Js t.x u.x≠0 then Js t.x u.x else Js t.y u.y
theorem bG (t u:V2):Sr t u<0↔Zt t u:=by
 have h1:=Ad t.x u.x; have h2:=Ad t.y u.y
 have h3:=fg t.x u.x
 unfold Sr Zt
 by_cases h:Js t.x u.x=0
 ·rw [if_neg (by simp [h])]
  have e:=h3.1 h
  rw [h2]
  constructor
  ·intro hh; exact .inr ⟨e,hh⟩
  ·rintro (hh | hh)
   ·rw [e] at hh; exact absurd hh (Rat.lt_irrefl)
   ·exact hh.2
 ·rw [if_pos h,h1]
  constructor
  ·intro hh; exact .inl hh
  ·rintro (hh | hh)
   ·exact hh
   ·exact absurd (h3.2 hh.1) h
theorem qJ (a b:Int):Fn Tryz.prog 200 [.sl 2 2 (Xn [I a,I b]) false] (I (if a≠0 then a else b)):=by
 refine Fn.intro (fn:=Tryz.f200) Tryz.call200 Tryz.func200 rfl mixed 6 [6,7,8] [] [] (by kernel_rfl) (Nat.le_of_ble_eq_true rfl) (by
  intro x hx
  rw [List.mem_singleton.1 hx]
  exact QS fun j hj=>Xg (l:=[I a,I b]) (by simp [Xa]) _) (X0 1000 ?_)
 simp (disch:=omega) only [AS.start,↓Xl,wD,↓X2,wA,seval,wE]
 refine G8 ?_
 refine X0 1000 ?_
 by_cases h:a=0
 rotate_left
 ·simp (disch:=omega) only [eq_false h,Int.reduceAdd,↓Xl,wD,↓X2,wA,seval,wE]
  exact Xv (v:=I a) rfl rfl (Xa _) (by rw [if_pos h])
 simp (disch:=omega) only [eq_true h,Int.reduceAdd,↓Xl,wD,↓X2,wA,seval,wE]
 refine Eo ?_
 refine X0 1000 ?_
 by_cases h2:b=0
 rotate_left
 ·simp (disch:=omega) only [eq_false h2,Int.reduceAdd,↓Xl,wD,↓X2,wA,seval,wE]
  exact Xv (v:=I b) rfl rfl (Xa _) (by rw [if_neg (by simp [h])])
 simp (disch:=omega) only [eq_true h2,Int.reduceAdd,↓Xl,wD,↓X2,wA,seval,wE]
 refine Eo ?_
 refine X0 1000 ?_
 simp (disch:=omega) only [Int.reduceAdd,↓Xl,wD,↓X2,wA,seval,wE]
 exact Xv (v:=I 0) rfl rfl (Xa _) (by rw [if_neg (by simp [h]),h2])
theorem OJ (t u:V2) (ht:vb t≤vm) (hu:vb u≤vm):Fn Tryz.prog 135 [vA t,vA u] (I (Sr t u)):=by
 have q1:=QO t; have q2:=QJ t; have q3:=QO u; have q4:=QJ u
 have c1:=K0 t.x u.x (by unfold rm; unfold vm at *; omega) (by unfold rm; unfold vm at *; omega)
 have c2:=K0 t.y u.y (by unfold rm; unfold vm at *; omega) (by unfold rm; unfold vm at *; omega)
 have c3:=qJ (Js t.x u.x) (Js t.y u.y)
 have hc:Sr t u=if Js t.x u.x≠0 then Js t.x u.x else Js t.y u.y:=rfl
 rw [← hc] at c3
 generalize Sr t u=R at *
 refine Fq Tryz.call135 Tryz.func135 5 [] [1,20000002,20000003] [] (by simp [Xo]) (X0 1000 ?_)
 simp (disch:=omega) only [AS.start,vA,vC,↓Xl,wD,↓X2,wA,seval,wE]
 refine X1 c1 rfl ?_
 simp (disch:=omega) only [↓Xl,wD,↓X2,wA,seval,wE]
 refine X1 c2 rfl ?_
 simp (disch:=omega) only [↓Xl,wD,↓X2,wA,seval,wE]
 refine X1 c3 rfl ?_
 simp (disch:=omega) only [↓Xl,wD,↓X2,wA,seval,wE]
 exact Xv rfl rfl (Xa _) rfl
def Yf (L:List V2) (j:Nat):List V2:=(L.set (j+1) (L.getD j v0)).set j (L.getD (j+1) v0)
def AG:List V2→Nat→List V2
 | L,0=>L
 | L,j+1=>if Zt (L.getD (j+1) v0) (L.getD j v0) then AG (Yf L j) j else L
def A5 (L:List V2):Nat→List V2
 | 0=>L
 | k+1=>AG (A5 L k) (k+1)
theorem NK (L:List V2) (j:Nat):(Yf L j).length=L.length:=by simp [Yf]
theorem P0:∀ (j:Nat) (L:List V2),(AG L j).length=L.length
 | 0,_=>rfl
 | j+1,L=>by
  unfold AG
  split
  ·rw [P0 j,NK]
  ·rfl
theorem AB (L:List V2):∀ k,(A5 L k).length=L.length
 | 0=>rfl
 | k+1=>by show (AG (A5 L k) (k+1)).length=_; rw [P0,AB L k]
theorem UM {L:List V2} {j:Nat} (h:j+1<L.length) (x:V2) (hx:x∈Yf L j):x∈L:=by
 unfold Yf at hx
 rcases List.mem_or_eq_of_mem_set hx with hx | rfl
 ·rcases List.mem_or_eq_of_mem_set hx with hx | rfl
  ·exact hx
  ·exact Jr (by omega)
 ·exact Jr h
theorem P1:∀ (j:Nat) (L:List V2),j<L.length→∀ x∈AG L j,x∈L
 | 0,_,_,x,h=>h
 | j+1,L,hj,x,h=>by
  unfold AG at h
  split at h
  ·exact UM hj x (P1 j (Yf L j) (by rw [NK]; omega) x h)
  ·exact h
theorem II (L:List V2):∀ k,k<L.length→∀ x∈A5 L k,x∈L
 | 0,_,x,h=>h
 | k+1,hk,x,h=>II L k (by omega) x (P1 (k+1) (A5 L k) (by rw [AB]; exact hk) x h)
theorem pm (l:List V2) (k:Nat) (x:V2) (hk:k<l.length):GX (Xr vC 8 v0 l) (k*8) (vC x)=Xr vC 8 v0 (l.set k x):=by
 funext j
 rw [Rl]
 have e:(l.set k x).getD k v0=x:=by rw [List.getD_eq_getElem?_getD,List.getElem?_set_self hk]; rfl
 have hl:(vC x).length=8:=rfl
 unfold Xr
 by_cases h:k*8≤j∧j<k*8+(vC x).length
 ·rw [if_pos h]
  rw [hl] at h
  rw [show j / 8=k by omega,e,show j % 8=j - k*8 by omega]
 ·rw [if_neg h]
  rw [hl] at h
  have:(l.set k x).getD (j / 8) v0=l.getD (j / 8) v0:=by rw [List.getD_eq_getElem?_getD,List.getElem?_set_ne (by omega),List.getD_eq_getElem?_getD]
  rw [this]
theorem mw {P:Program} {fn:Func} {str hcs:List Nat} {b:Nat} {H:List AO} {s:AS} (hr:fn.results=#[]) (hH:s.h=H):RetE (CD P fn str hcs b (.tup []) H) s :=
 ⟨.tup [],by show Ku P fn s=_; simp [Ku,hr,QR,Zf],rfl,hH⟩
theorem Wo (o0 o1 o2 o3 o4 o5 o6 o7:AO) (v:Nat) (L:List V2) (hL:∀ x∈L,vb x≤vm) (hn:L.length<1000) :
  HCall Tryz.prog 233 [.osl 8 v 8 0 L.length,I 0,I L.length,.fn 135 []] [o0,o1,o2,o3,o4,o5,o6,o7,.row v (L.length*8) (Xr vC 8 v0 L)] (.tup []) [o0,o1,o2,o3,o4,o5,o6,o7,.row v (L.length*8) (Xr vC 8 v0 (A5 L (L.length - 1)))]:=by
 refine HCall.intro (fn:=Tryz.f233) Tryz.call233 Tryz.func233 rfl mixed 10 [] [4,5008,5013,6,7009,7013] [] (by kernel_rfl) (Nat.le_of_ble_eq_true rfl) (X0 1000 ?_)
 simp (disch:=omega) only [AS.start,↓Xl,wD,↓X2,wA,seval,wE]
 refine Xf (fun k:Nat=>⟨10,[],[.osl 8 v 8 0 L.length,I 0,I L.length,.fn 135 [],.any,.any,.any,.any,I (k+1:Nat),.any],[],[o0,o1,o2,o3,o4,o5,o6,o7,.row v (L.length*8) (Xr vC 8 v0 (A5 L k))]⟩) (fun k=>k≤L.length - 1) (fun k=>L.length - k) 0 (by omega)
  (Xb rfl (by simp [Xh,I]) (by simp [Xi]) rfl) ?_
 intro k hk next
 by_cases hk2:k+1<L.length
 rotate_left
 ·obtain rfl:k=L.length - 1:=by omega
  refine X0 1000 ?_
  simp (disch:=omega) only [↓Xl,wD,↓X2,wA,seval,wE]
  exact mw rfl rfl
 have hml:=II L k (by omega)
 have hll:=AB L k
 have nx:=next (k+1)
 rw [show A5 L (k+1)=AG (A5 L k) (k+1) from rfl] at nx
 generalize A5 L k=M at *
 refine X0 1000 ?_
 simp (disch:=omega) only [↓Xl,wD,↓X2,wA,seval,wE]
 refine Xf (fun p:Nat×List V2=>⟨10,[],[.osl 8 v 8 0 L.length,I 0,I L.length,.fn 135 [],.any,.any,.any,.any,I (k+1:Nat),I p.1],[],[o0,o1,o2,o3,o4,o5,o6,o7,.row v (L.length*8) (Xr vC 8 v0 p.2)]⟩) (fun p=>p.1≤k+1∧p.2.length=L.length∧(∀ x∈p.2,vb x≤vm)∧AG p.2 p.1=AG M (k+1)) (fun p=>p.1) (k+1,M) ⟨by simp,hll,fun x hx=>hL x (hml x hx),rfl⟩
  (Xb rfl (by simp [Xh,I]) (by simp [Xi]) rfl) ?_
 rintro ⟨j,C⟩ ⟨h1,h2,h3,h4⟩ nextj
 replace h1:j≤k+1:=h1
 replace h2:C.length=L.length:=h2
 replace h3:∀ x∈C,vb x≤vm:=h3
 replace h4:AG C j=AG M (k+1):=h4
 match j,h1,h4,nextj with
 | 0,h1,h4,nextj =>
  refine X0 1000 ?_
  simp (disch:=omega) only [↓Xl,wD,↓X2,wA,seval,wE]
  have h5:C=AG M (k+1):=h4
  rw [← h5] at nx
  exact nx _ (by omega) (by omega) (Xb rfl (by simp [Xh,I]) (by simp [Xi]) rfl)
 | j+1,h1,h4,nextj =>
  have c:=OJ (C.getD (j+1) v0) (C.getD j v0) (h3 _ (Jr (by omega))) (h3 _ (Jr (by omega)))
  have a1:=Jm vC 8 v0 C (j+1)
  have a2:=Ju vC 8 v0 C (j+1) (by omega)
  have b1:=Jm vC 8 v0 C j
  have b2:=Ju vC 8 v0 C j (by omega)
  have hj1:(((j+1:Nat):Int) - 1).toNat=j:=by omega
  have hneg:=bG (C.getD (j+1) v0) (C.getD j v0)
  by_cases hb:Zt (C.getD (j+1) v0) (C.getD j v0)
  rotate_left
  ·have hlt:=mt hneg.1 hb
   have h5:C=AG M (k+1):=by rw [← h4]; unfold AG; rw [if_neg hb]
   rw [← h5] at nx
   clear h4 h5 hb hneg nextj
   generalize C.getD (j+1) v0=x at *
   generalize C.getD j v0=y at *
   generalize Sr x y=d at *
   refine X0 1000 ?_
   simp (disch:=omega) only [hj1,a1,a2,b1,b2,vC,↓Xl,wD,↓X2,wA,seval,wE]
   refine X1 c rfl ?_
   simp (disch:=omega) only [eq_false hlt,↓Xl,wD,↓X2,wA,seval,wE]
   exact nx _ (by omega) (by omega) (Xb rfl (by simp [Xh,I]) (by simp [Xi]) rfl)
  have hlt:=hneg.2 hb
  have e1:=pm C (j+1) (C.getD j v0) (by omega)
  have e2:=pm (C.set (j+1) (C.getD j v0)) j (C.getD (j+1) v0) (by rw [List.length_set]; omega)
  have hsw:(C.set (j+1) (C.getD j v0)).set j (C.getD (j+1) v0)=Yf C j:=rfl
  rw [hsw,← e1] at e2
  have h5:AG (Yf C j) j=AG M (k+1):=by rw [← h4]; exact (if_pos hb).symm
  have nx2:=nextj (j,Yf C j)
  have h6:∀ x∈Yf C j,vb x≤vm:=fun x hx=>h3 x (UM (by omega) x hx)
  have h7:=NK C j
  generalize Yf C j=D at *
  clear h4 hb hneg nextj hsw e1
  generalize C.getD (j+1) v0=x at *
  generalize C.getD j v0=y at *
  generalize Sr x y=d at *
  refine X0 1000 ?_
  simp (disch:=omega) only [hj1,a1,a2,b1,b2,vC,↓Xl,wD,↓X2,wA,seval,wE]
  refine X1 c rfl ?_
  simp (disch:=omega) only [hj1,a1,a2,b1,b2,vC,eq_true hlt,↓Xl,wD,↓X2,wA,seval,wE]
  exact nx2 _ ⟨by show j≤k+1; omega,by show D.length=_; omega,h6,h5⟩ (by show j<j+1; omega) (Xb rfl (by simp [Xh,I]) (by simp [Xi]) (by rw [← e2]; rfl))
end
end Go.Ab.N
namespace Go.Ab.N
open Go Go.RowKit Go.Proofs
open Go.Shelf
noncomputable section
set_option maxRecDepth 10000
set_option maxHeartbeats 4000000
open Classical
def s9:Go.Shelf.Ren:=⟨fun k=>if k=125 then 199 else if k=128 then 241 else 242,fun t=>if t=46 then 187 else if t=51 then 218 else if t=53 then 197 else t,fun x=>x⟩
theorem qx:Lays.n125 Tryz.prog s9 where
 mixed:=mixed
 f125:=Tryz.func199.trans (congrArg some rfl)
 f128:=Tryz.func241.trans (congrArg some rfl)
 f129:=Tryz.func242.trans (congrArg some rfl)
 t3:=Tryz.underlying3
 a3:=Tryz.isAgg3
 z3:=Tryz.sizeOf3
 v3:=Tryz.zeroValue3
 t4:=Tryz.underlying4
 a4:=Tryz.isAgg4
 z4:=Tryz.sizeOf4
 v4:=Tryz.zeroValue4
 t5:=Tryz.underlying5
 a5:=Tryz.isAgg5
 z5:=Tryz.sizeOf5
 v5:=Tryz.zeroValue5
 t9:=Tryz.underlying9
 a9:=Tryz.isAgg9
 z9:=Tryz.sizeOf9
 v9:=Tryz.zeroValue9
 t46:=Tryz.underlying187
 a46:=Tryz.isAgg187
 z46:=Tryz.sizeOf187
 v46:=Tryz.zeroValue187
 t51:=Tryz.underlying218
 a51:=Tryz.isAgg218
 z51:=Tryz.sizeOf218
 v51:=Tryz.zeroValue218
 t53:=Tryz.underlying197
 a53:=Tryz.isAgg197
 z53:=Tryz.sizeOf197
 v53:=Tryz.zeroValue197
theorem oy (n:Nat) (h:n<1000000):Fn Tryz.prog 199 [.int .u64 n] (I (Lib.bitLen n)):=by
 refine ⟨⟨Tryz.call199,?_⟩,fun a ha=>by rw [List.mem_singleton.1 ha]; exact Jc _ _⟩
 rintro w S vs hS ⟨hv1,hv2⟩
 have hx:=hv2 0 (by simp)
 have h3:vs.size=1:=hv1
 have e1:vs=#[vs.getD 0 undef]:=by
  apply Array.ext
  ·simp [h3]
  ·intro j g1 g2
   match j,g1 with
   | 0,_=>simp [Array.getD,h3]
   | j+1,g=>omega
 rw [e1]
 generalize vs.getD 0 undef=x at *
 replace hx:Rep (.bare w S) x (.int .u64 n):=hx
 cases hx
 have key:=Any.bits_Len qx (n:Int) w (by omega) (by omega)
 refine key.mono ?_
 rintro e w' ⟨rfl,rfl⟩
 rw [Int.toNat_natCast]
 exact ⟨_,S,rfl,.int _ _,hS,Ext.refl _⟩
theorem oR {P:Program} {fn:Func} {str hcs:List Nat} {b:Nat} {H:List AO} {s:AS} (hr:fn.results=#[]) (hH:s.h=H):RetOk (CD P fn str hcs b (.tup []) H) s :=
 ⟨.tup [],by show Ku P fn s=_; simp [Ku,hr,QR,Zf],rfl,hH⟩
theorem qW {o0 o1 o2 o3 o4 o5 o6 o7 o8:AO} (h:∀ o∈[o0,o1,o2,o3,o4,o5,o6,o7],o≠.unborn) (h5:o8≠.unborn) (id:Nat):[o0,o1,o2,o3,o4,o5,o6,o7,o8][id]?≠some .unborn:=by
 intro hh
 have:=List.mem_of_getElem? hh
 rw [show [o0,o1,o2,o3,o4,o5,o6,o7,o8]=[o0,o1,o2,o3,o4,o5,o6,o7] ++ [o8] from rfl,List.mem_append,List.mem_singleton] at this
 rcases this with g | g
 ·exact h _ g rfl
 ·exact h5 g.symm
theorem oJ (o0 o1 o2 o3 o4 o5 o6 o7:AO) (hu:∀ o∈[o0,o1,o2,o3,o4,o5,o6,o7],o≠.unborn) (v lim:Nat) (L:List V2) (hL:∀ x∈L,vb x≤vm) (hn:L.length≤12) :
  HCall Tryz.prog 198 [.osl 8 v 8 0 L.length,I 0,I L.length,I lim,.fn 135 []] [o0,o1,o2,o3,o4,o5,o6,o7,.row v (L.length*8) (Xr vC 8 v0 L)] (.tup []) [o0,o1,o2,o3,o4,o5,o6,o7,.row v (L.length*8) (Xr vC 8 v0 (A5 L (L.length - 1)))]:=by
 have c:=Wo o0 o1 o2 o3 o4 o5 o6 o7 v L hL (by omega)
 refine HCall.intro (fn:=Tryz.f198) Tryz.call198 Tryz.func198 rfl mixed 21 [] [] [4] (by kernel_rfl) (Nat.le_of_ble_eq_true rfl) (X0 1000 ?_)
 simp (disch:=omega) only [AS.start,↓Xl,wD,↓X2,wA,seval,wE]
 refine G8 ?_
 refine X0 1000 ?_
 simp (disch:=omega) only [↓Xl,wD,↓X2,wA,seval,wE]
 refine Ke rfl c (KB (id:=8) (o:=.row v (L.length*8) (Xr vC 8 v0 L)) rfl (by simp) (by simp)) (qW hu (by simp)) (Qc _) ?_
 simp (disch:=omega) only [↓Xl,wD,↓X2,wA,seval,wE]
 exact oR rfl rfl
theorem l9 (o0 o1 o2 o3 o4 o5 o6 o7:AO) (hu:∀ o∈[o0,o1,o2,o3,o4,o5,o6,o7],o≠.unborn) (v:Nat) (L:List V2) (hL:∀ x∈L,vb x≤vm) (hn:L.length≤12) :
  HCall Tryz.prog 134 [.osl 8 v 8 0 L.length,.fn 135 []] [o0,o1,o2,o3,o4,o5,o6,o7,.row v (L.length*8) (Xr vC 8 v0 L)] (.tup []) [o0,o1,o2,o3,o4,o5,o6,o7,.row v (L.length*8) (Xr vC 8 v0 (A5 L (L.length - 1)))]:=by
 have c:=oJ o0 o1 o2 o3 o4 o5 o6 o7 hu v (Lib.bitLen L.length) L hL hn
 have cl:=oy L.length (by omega)
 have hw:IntKind.u64.wrap (L.length:Int)=L.length:=by rw [IntKind.wrap_u64]; omega
 generalize Lib.bitLen L.length=lim at *
 refine HCall.intro (fn:=Tryz.f134) Tryz.call134 Tryz.func134 rfl mixed 5 [] [] [1] (by kernel_rfl) (Nat.le_of_ble_eq_true rfl) (X0 1000 ?_)
 simp (disch:=omega) only [AS.start,hw,↓Xl,wD,↓X2,wA,seval,wE]
 refine X1 cl rfl ?_
 simp (disch:=omega) only [↓Xl,wD,↓X2,wA,seval,wE]
 refine Ke rfl c (KB (id:=8) (o:=.row v (L.length*8) (Xr vC 8 v0 L)) rfl (by simp) (by simp)) (qW hu (by simp)) (Qc _) ?_
 simp (disch:=omega) only [↓Xl,wD,↓X2,wA,seval,wE]
 exact mw rfl rfl
end
end Go.Ab.N
namespace Go.Ab.N
open Go Go.RowKit Go.Proofs
noncomputable section
set_option maxRecDepth 10000
set_option maxHeartbeats 4000000
open Classical
theorem Ix {P:Program} {fn:Func} {str hcs:List Nat} {b:Nat} {r:AV} {H:List AO} {s:AS} {t:Nat} (hr:fn.results=#[.tmp t]) (h1:s.get t=r) (hH:s.h=H):RetOk (CD P fn str hcs b r H) s :=
 ⟨r,by show Ku P fn s=_; simp [Ku,hr,QR,Jb,Zf,h1],rfl,hH⟩
theorem Oc (o0 o1 o2 o3 o4:AO) (B0:∀ m,5≤m→XS m o0) (B1:∀ m,5≤m→XS m o1) (B2:∀ m,5≤m→XS m o2) (B3:∀ m,5≤m→XS m o3) (B4:∀ m,5≤m→XS m o4) (a b:PV) (f:FV) (hf:Cr a.rim.length b.rim.length f) (ha:a.even) (hb:b.even) :
  HCall Tryz.prog 133 [JM a,JM b,Ap f] [o0,o1,o2,o3,o4] (.osl 8 (Qa a b f f.M.toNat).length 8 0 (Qa a b f f.M.toNat).length) [o0,o1,o2,o3,o4,.dead,.dead,.dead,.row (Qa a b f f.M.toNat).length ((Qa a b f f.M.toNat).length*8) (Xr vC 8 v0 (Qa a b f f.M.toNat))]:=by
 have ce:=EQ a b f hf ha.rim hb.rim
 obtain ⟨⟨s1,s2⟩,⟨s3,s4⟩,s5,s6,s7⟩:=hf
 obtain ⟨N,hN⟩:∃ N:Nat,f.M=N:=⟨f.M.toNat,by omega⟩
 have la:=ha.rim; have lb:=hb.rim
 have hNt:f.M.toNat=N:=by rw [hN]; rfl
 rw [hNt]
 obtain ⟨L,hL⟩:∃ L,L=CC a.rim.length b.rim.length f:=⟨_,rfl⟩
 have hlen:L.length=N:=by rw [hL,Ao,hN]; rfl
 have hat:∀ k,k<N→L.getD k (0,0)=((xK a.rim.length f k:Int),(yK b.rim.length f k:Int)):=fun k hk=>by rw [hL]; exact Dv _ _ _ _ (by omega)
 rw [← hL] at ce
 clear hL
 have ba:XS 9 (.row 0 25 (Xn (XW a)))=True:=eq_true (XM (XE a))
 have bb:XS 9 (.row 0 25 (Xn (XW b)))=True:=eq_true (XM (XE b))
 have bf:XS 9 (.row 0 29 (Xn (Qo f)))=True:=eq_true (XM (Qe f))
 have bL:Kd 9 (Ck L)=True:=eq_true (X9 (Qn _))
 have hvc:∀ a:V2,∀ x∈vC a,Settled x:=fun a=>by simp [vC,X4,X3]
 have br:∀ i l n,XS 9 (.row i n (Xr vC 8 v0 l))=True:=fun i l n=>eq_true fun j _=>X9 (Xg (hvc _) _)
 have q0:XS 9 o0=True:=eq_true (B0 9 (by omega))
 have q1:XS 9 o1=True:=eq_true (B1 9 (by omega))
 have q2:XS 9 o2=True:=eq_true (B2 9 (by omega))
 have q3:XS 9 o3=True:=eq_true (B3 9 (by omega))
 have q4:XS 9 o4=True:=eq_true (B4 9 (by omega))
 refine HCall.intro (fn:=Tryz.f133) Tryz.call133 Tryz.func133 rfl mixed 12 [15,16,17] [] [] (by kernel_rfl) (Nat.le_of_ble_eq_true rfl) (X0 1000 ?_)
 simp only [AS.start,JM,XW,Ap,Qo,↓X2,wA,seval,wE]
 refine X1 ce rfl ?_
 simp only [Xj,hlen,↓X2,wA,seval,wE]
 refine Xf (fun k:Nat=>⟨12,[15,16,17],[.any,.any,.any,.ref 5 0 0,.ref 6 0 0,.ref 7 0 0,.any,.osl 8 (Qa a b f k).length 8 0 (Qa a b f k).length,.any,.any,.any,.any],[(15,Ck L),(16,I N),(17,I k)],[o0,o1,o2,o3,o4,.row 0 25 (Xn (XW a)),.row 0 25 (Xn (XW b)),.row 0 29 (Xn (Qo f)),.row (Qa a b f k).length ((Qa a b f k).length*8) (Xr vC 8 v0 (Qa a b f k))]⟩) (fun k=>k≤N) (fun k=>N - k) 0 (by omega)
  (Sub.trans (QL 7 8 (Xr vC 8 v0 []) rfl) (Xb rfl (by simp [AS.put,Qa,Xh,I]) (by simp [AS.put,Xi,Xp,Xj,hlen,I]) (by simp [AS.put,Qa,XW,Qo,Xj,Xw,X5,I]))) ?_
 intro k hk next
 have w1:=wj k (by omega)
 have hln:=Cv a b f k
 by_cases hk2:k<N
 rotate_left
 ·obtain rfl:k=N:=by omega
  refine Run.sub (s':=⟨12,[15,16,17],[.any,.any,.any,.any,.any,.any,.any,.osl 8 (Qa a b f k).length 8 0 (Qa a b f k).length,.any,.any,.any,.any],[(15,Ck L),(16,I k),(17,I k)],[o0,o1,o2,o3,o4,.dead,.dead,.dead,.row (Qa a b f k).length ((Qa a b f k).length*8) (Xr vC 8 v0 (Qa a b f k))]⟩) ?_
   (Sub.trans (BF 5 rfl (by simp [AO.info])) (Sub.trans (BF 6 rfl (by simp [AO.info])) (Sub.trans (BF 7 rfl (by simp [AO.info])) (Xb rfl (by simp [Xh,I]) (by simp [Xi,Xp,I]) (by simp)))))
  refine X0 1000 ?_
  simp only [Int.lt_irrefl,Nat.lt_irrefl,↓X2,wA,seval,wE]
  exact Ix rfl rfl rfl
 have nx:=next (k+1)
 have f1:((k:Int)<N)=True:=eq_true (by omega)
 have f2:(k<N)=True:=eq_true hk2
 have f3:(k*2+2≤N*2)=True:=eq_true (by omega)
 have v1:=kM L k
 rw [hat k hk2] at v1
 have n2:((2:Nat):Int)=2:=rfl
 have t1:(1:Int).toNat=1:=rfl
 have ca:=BW a b (xK a.rim.length f k) (yK b.rim.length f k) la lb ha.near hb.near
 rw [show QF a.rim b.rim (xK a.rim.length f k) (yK b.rim.length f k)=L3 a b f k from rfl] at ca
 have hs:Qa a b f (k+1)=if (L3 a b f k).2=true then Qa a b f k ++ [(L3 a b f k).1] else Qa a b f k:=rfl
 generalize L3 a b f k=X at *
 obtain ⟨t,ok⟩:=X
 refine X0 1000 ?_
 simp only [XW,Qo,Xj,Xw,X5,hlen,w1,f1,f2,f3,v1,n2,t1,Int.toNat_zero,Int.reduceLT,Int.reduceLE,Int.toNat_natCast,↓X2,wA,seval,wE]
 refine X1 ca rfl ?_
 cases ok with
 | false =>
  rw [if_neg (show ¬ ((t,false).2=true) from Bool.false_ne_true)] at hs
  simp only [hs] at nx
  simp only [w1,↓X2,wA,seval,wE]
  exact nx _ (by omega) (by omega) (XA (m:=9) (show 5≤9 by omega) rfl (by simp [Xh,I]) (by simp [Xi,Xp,Xj,hlen,I]) (by simp [XW,Qo,Xj,Xw,X5,I]) (by simp [Xz]) (by simp [Xz,bL]) (by simp [q0,q1,q2,q3,q4,ba,bb,bf,br]))
 | true =>
  rw [if_pos rfl] at hs
  have hlen2:(Qa a b f (k+1)).length=(Qa a b f k).length+1:=by rw [hs]; simp
  have hap:=Qq vC 8 v0 (Qa a b f k) t (by omega)
  rw [← hs] at hap
  simp only [hlen2] at nx
  simp only [w1,↓X2,wA,seval,wE]
  exact ⟨⟨Et t,by omega,by omega⟩,nx _ (by omega) (by omega) (XA (m:=9) (show 5≤9 by omega) rfl (by simp [Xh,I]) (by simp [Xi,Xp,Xj,hlen,I]) (by rw [← hap]; simp [XW,Qo,Xj,Xw,X5,I,vC]) (by simp [Xz]) (by simp [Xz,bL]) (by simp [q0,q1,q2,q3,q4,ba,bb,bf,br]))⟩
theorem Bp {a b c:V2} (h1:Zt a b) (h2:Zt b c):Zt a c:=by unfold Zt at *; grind
theorem H0 (a:V2):¬ Zt a a:=by unfold Zt; grind
theorem FI {a b:V2} (h:¬ Zt a b) (hn:a≠b):Zt b a:=by
 have:¬ (a.x=b.x∧a.y=b.y):=fun hh=>hn (V2.ext'.2 hh)
 unfold Zt at *
 grind
theorem P3 (t:V2):∀ l,l.Pairwise Zt→t∉l→(Lo t l).Pairwise Zt
 | [],_,_=>by simp [Lo]
 | x :: l,hs,hn=>by
  rw [List.pairwise_cons] at hs
  rw [List.mem_cons,not_or] at hn
  have ih:=P3 t l hs.2 hn.2
  unfold Lo
  split
  ·rename_i hb
   rw [List.pairwise_cons,List.pairwise_cons]
   refine ⟨fun y hy=>?_,hs⟩
   rcases List.mem_cons.1 hy with rfl | hy
   ·exact hb
   ·exact Bp hb (hs.1 y hy)
  ·rename_i hb
   rw [List.pairwise_cons]
   refine ⟨fun y hy=>?_,ih⟩
   rcases (Ia t y l).1 hy with rfl | hy
   ·exact FI hb hn.1
   ·exact hs.1 y hy
theorem IR (a b:PV) (f:FV):∀ n,(Ky a b f n).Pairwise Zt
 | 0=>List.Pairwise.nil
 | n+1=>by
  have ih:=IR a b f n
  unfold Ky
  split
  ·unfold an
   split
   ·exact ih
   ·rename_i h
    exact P3 _ _ ih h
  ·exact ih
theorem UI:∀ (l m:List V2),l.Pairwise Zt→m.Pairwise Zt→(∀ x,x∈l↔x∈m)→l=m
 | [],[],_,_,_=>rfl
 | [],b :: m,_,_,h=>absurd ((h b).2 (List.mem_cons_self ..)) (List.not_mem_nil)
 | a :: l,[],_,_,h=>absurd ((h a).1 (List.mem_cons_self ..)) (List.not_mem_nil)
 | a :: l,b :: m,h1,h2,h=>by
  rw [List.pairwise_cons] at h1 h2
  have e:a=b:=by
   rcases List.mem_cons.1 ((h a).1 (List.mem_cons_self ..)) with e | ha
   ·exact e
   rcases List.mem_cons.1 ((h b).2 (List.mem_cons_self ..)) with e | hb
   ·exact e.symm
   ·exact absurd (Bp (h1.1 b hb) (h2.1 a ha)) (H0 a)
  subst e
  refine congrArg (a :: ·) (UI l m h1.2 h2.2 fun x=>⟨fun hx=>?_,fun hx=>?_⟩)
  ·rcases List.mem_cons.1 ((h x).1 (List.mem_cons_of_mem _ hx)) with rfl | hy
   ·exact absurd (h1.1 x hx) (H0 x)
   ·exact hy
  ·rcases List.mem_cons.1 ((h x).2 (List.mem_cons_of_mem _ hx)) with rfl | hy
   ·exact absurd (h2.1 x hx) (H0 x)
   ·exact hy
def GS (x:V2):List V2→List V2
 | []=>[x]
 | y :: Q=>if Zt x y then y :: GS x Q else x :: y :: Q
theorem Ib (x z:V2):∀ Q,z∈GS x Q↔z=x∨z∈Q
 | []=>by simp [GS]
 | y :: Q=>by
  have ih:=Ib x z Q
  unfold GS
  split
  ·rw [List.mem_cons,ih,List.mem_cons]
   constructor
   ·rintro (h | h | h)
    ·exact .inr (.inl h)
    ·exact .inl h
    ·exact .inr (.inr h)
   ·rintro (h | h | h)
    ·exact .inr (.inl h)
    ·exact .inl h
    ·exact .inr (.inr h)
  ·simp
theorem P5 (x:V2):∀ Q,(GS x Q).length=Q.length+1
 | []=>rfl
 | y :: Q=>by
  have ih:=P5 x Q
  unfold GS
  split
  ·simp [ih]
  ·simp
def mc (Q:List V2):Prop:=Q.Pairwise fun a b=>¬ Zt a b
theorem P4 (x:V2):∀ Q,mc Q→mc (GS x Q)
 | [],_=>by simp [mc,GS]
 | y :: Q,h=>by
  have h':=h
  unfold mc at h'
  rw [List.pairwise_cons] at h'
  have ih:=P4 x Q h'.2
  unfold GS
  split
  ·rename_i hb
   unfold mc
   rw [List.pairwise_cons]
   refine ⟨fun z hz=>?_,ih⟩
   rcases (Ib x z Q).1 hz with rfl | hz
   ·exact fun hh=>H0 _ (Bp hb hh)
   ·exact h'.1 z hz
  ·rename_i hb
   unfold mc
   rw [List.pairwise_cons]
   refine ⟨fun z hz=>?_,h⟩
   rcases List.mem_cons.1 hz with rfl | hz2
   ·exact hb
   ·intro hh
    have h5:=h'.1 z hz2
    by_cases e:x=y
    ·rw [e] at hh; exact h5 hh
    ·exact h5 (Bp (FI hb e) hh)
theorem OS (A R:List V2) (x:V2):(A ++ x :: R).getD A.length v0=x:=by
 rw [List.getD_eq_getElem?_getD,List.getElem?_append_right (Nat.le_refl _),Nat.sub_self]; rfl
theorem M0 (A R:List V2) (x y:V2):(A ++ y :: x :: R).getD (A.length+1) v0=x:=by
 rw [List.getD_eq_getElem?_getD,List.getElem?_append_right (by omega),Nat.add_sub_cancel_left]; rfl
theorem lf (A R:List V2) (x y:V2):Yf (A ++ y :: x :: R) A.length=A ++ x :: y :: R:=by
 unfold Yf
 rw [OS,M0,List.set_append_right _ _ (by omega),Nat.add_sub_cancel_left,List.set_append_right _ _ (Nat.le_refl _),Nat.sub_self]; rfl
theorem I9 (x:V2):∀ (Q R:List V2),AG (Q.reverse ++ x :: R) Q.length=(GS x Q).reverse ++ R
 | [],R=>rfl
 | y :: Q,R=>by
  have ih:=I9 x Q (y :: R)
  have hl:Q.reverse.length=Q.length:=List.length_reverse
  have e:(y :: Q).reverse ++ x :: R=Q.reverse ++ y :: x :: R:=by simp
  rw [e]
  show AG (Q.reverse ++ y :: x :: R) (Q.length+1)=_
  unfold AG GS
  rw [← hl,M0,OS,lf,hl,ih]
  split
  ·simp
  ·simp
theorem IJ (L:List V2):∀ k,k<L.length→∃ Q R,A5 L k=Q.reverse ++ R∧Q.length=k+1∧mc Q∧∀ x,x∈A5 L k↔x∈L
 | 0,h=>by
  match L,h with
  | x :: R,_=>exact ⟨[x],R,rfl,rfl,by simp [mc],fun _=>Iff.rfl⟩
 | k+1,h=>by
  obtain ⟨Q,R,h1,h2,h3,h4⟩:=IJ L k (by omega)
  have hl:=AB L k
  match R,h1 with
  | [],h1=>rw [h1] at hl; simp at hl; omega
  | x :: R,h1 =>
   refine ⟨GS x Q,R,?_,by rw [P5,h2],P4 x Q h3,fun z=>?_⟩
   ·show AG (A5 L k) (k+1)=_
    rw [h1,← h2]; exact I9 x Q R
   ·rw [← h4 z]
    show z∈AG (A5 L k) (k+1)↔_
    rw [h1,← h2,I9 x Q R]
    simp only [List.mem_append,List.mem_reverse,List.mem_cons,Ib]
    constructor
    ·rintro ((h | h) | h)
     ·exact .inr (.inl h)
     ·exact .inl h
     ·exact .inr (.inr h)
    ·rintro (h | h | h)
     ·exact .inl (.inr h)
     ·exact .inl (.inl h)
     ·exact .inr h
def A8 (L:List V2):Nat→List V2
 | 0=>L.take 1
 | k+1=>if L.getD (k+1) v0=L.getD k v0 then A8 L k else A8 L k ++ [L.getD (k+1) v0]
theorem TR (L:List V2):∀ k,(A8 L k).length≤k+1
 | 0=>by simp [A8]; omega
 | k+1=>by
  have ih:=TR L k
  unfold A8
  split
  ·omega
  ·simp; omega
theorem bE (L:List V2) (hs:L.Pairwise fun a b=>¬ Zt b a):∀ k,k<L.length→(A8 L k).Pairwise Zt∧(∀ x,x∈A8 L k↔x∈L.take (k+1))∧∀ y∈A8 L k,y=L.getD k v0∨Zt y (L.getD k v0)
 | 0,h=>by
  match L,h with
  | x :: R,_=>exact ⟨by simp [A8],fun _=>by simp [A8],fun y hy=>.inl (by simpa [A8] using hy)⟩
 | k+1,h=>by
  obtain ⟨h1,h2,h3⟩:=bE L hs k (by omega)
  have ht:=QE L v0 (k+1) h
  by_cases e:L.getD (k+1) v0=L.getD k v0
  ·have ec:A8 L (k+1)=A8 L k:=if_pos e
   rw [ec]
   refine ⟨h1,fun x=>?_,fun y hy=>by rw [e]; exact h3 y hy⟩
   rw [h2 x,ht,List.mem_append,List.mem_singleton]
   refine ⟨fun hx=>.inl hx,fun hx=>?_⟩
   rcases hx with hx | rfl
   ·exact hx
   ·rw [e,QE L v0 k (by omega)]
    simp
  ·have ec:A8 L (k+1)=A8 L k ++ [L.getD (k+1) v0]:=if_neg e
   have hb:Zt (L.getD k v0) (L.getD (k+1) v0):=by
    refine FI (fun hh=>?_) e
    have:=(List.pairwise_iff_getElem.1 hs) k (k+1) (by omega) h (by omega)
    rw [List.getD_eq_getElem?_getD,List.getD_eq_getElem?_getD,List.getElem?_eq_getElem h,List.getElem?_eq_getElem (show k<L.length by omega)] at hh
    exact this hh
   have hall:∀ y∈A8 L k,Zt y (L.getD (k+1) v0):=fun y hy=>by
    rcases h3 y hy with rfl | g
    ·exact hb
    ·exact Bp g hb
   rw [ec]
   refine ⟨?_,fun x=>?_,fun y hy=>?_⟩
   ·rw [List.pairwise_append]
    exact ⟨h1,List.pairwise_singleton _ _,fun y hy z hz=>by rw [List.mem_singleton.1 hz]; exact hall y hy⟩
   ·rw [List.mem_append,h2 x,ht,List.mem_append]
   ·rcases List.mem_append.1 hy with hy | hy
    ·exact .inr (hall y hy)
    ·exact .inl (List.mem_singleton.1 hy)
theorem Ob (a b:PV) (f:FV) (t:V2) (n:Nat):t∈Qa a b f n↔∃ k,k<n∧(L3 a b f k).2=true∧(L3 a b f k).1=t:=by
 rw [← Hz,List.any_eq_true]
 constructor
 ·intro h; exact ⟨t,h,by simp⟩
 ·rintro ⟨x,hx,e⟩
  rw [of_decide_eq_true e] at hx
  exact hx
theorem Vt (a b:PV) (f:FV) (n:Nat) (h:0<(Qa a b f n).length):A8 (A5 (Qa a b f n) ((Qa a b f n).length - 1)) ((Qa a b f n).length - 1)=Ky a b f n:=by
 obtain ⟨Q,R,h1,h2,h3,h4⟩:=IJ (Qa a b f n) ((Qa a b f n).length - 1) (by omega)
 have hl:=AB (Qa a b f n) ((Qa a b f n).length - 1)
 have hR:R=[]:=by
  rw [h1] at hl
  rw [List.length_append,List.length_reverse,h2] at hl
  exact List.eq_nil_of_length_eq_zero (by omega)
 subst hR
 rw [List.append_nil] at h1
 have hs:(A5 (Qa a b f n) ((Qa a b f n).length - 1)).Pairwise fun a b=>¬ Zt b a:=by
  rw [h1,List.pairwise_reverse]; exact h3
 obtain ⟨c1,c2,_⟩:=bE _ hs ((Qa a b f n).length - 1) (by omega)
 refine UI _ _ c1 (IR a b f n) fun x=>?_
 rw [c2 x,List.take_of_length_le (by omega),h4 x,Ob,ZH]
theorem lX:V0 Tryz.prog 148=true:=by kernel_rfl
theorem HO (L:List V2):∀ k,k<L.length→(∀ j,j<k→L.getD (j+1) v0≠L.getD j v0)→A8 L k=L.take (k+1)
 | 0,h,_=>rfl
 | k+1,h,hn=>by
  unfold A8
  rw [if_neg (hn k (by omega)),HO L k (by omega) (fun j hj=>hn j (by omega)),← QE L v0 (k+1) h]
theorem bF (L:List V2) (k:Nat):A8 L (k+1)=if L.getD (k+1) v0=L.getD k v0 then A8 L k else A8 L k ++ [L.getD (k+1) v0]:=rfl
theorem NL (C D:List V2) (x:V2) (h:D.length<C.length) (ht:C.take D.length=D):(C.set D.length x).take (D.length+1)=D ++ [x]:=by
 rw [QE _ v0 _ (by rw [List.length_set]; exact h),List.take_set_of_le (Nat.le_refl _),ht,List.getD_eq_getElem?_getD,List.getElem?_set_self h]; rfl
theorem Su (o0 o1 o2 o3 o4 o5 o6 o7:AO) (v:Nat) (L:List V2) (hL:∀ x∈L,vb x≤vm) (hn:L.length<1000) :
  HCall Tryz.prog 136 [.osl 8 v 8 0 L.length,.fn 67 []] [o0,o1,o2,o3,o4,o5,o6,o7,.row v (L.length*8) (Xr vC 8 v0 L)]
   (.osl 8 v 8 0 (A8 L (L.length - 1)).length) [o0,o1,o2,o3,o4,o5,o6,o7,.row v ((A8 L (L.length - 1)).length*8) (Xr vC 8 v0 (A8 L (L.length - 1)))]:=by
 have hat:∀ i,i<L.length→vb (L.getD i v0)≤vm:=fun i hi=>hL _ (Jr hi)
 refine HCall.intro (fn:=Tryz.f136) Tryz.call136 Tryz.func136 rfl mixed 8 [] [6,7004,7009,11,12004,12009] [] (by kernel_rfl) (Nat.le_of_ble_eq_true rfl) (X0 1000 ?_)
 by_cases h2:2≤L.length
 rotate_left
 ·have e:A8 L (L.length - 1)=L:=by rw [show L.length - 1=0 by omega]; show L.take 1=L; exact List.take_of_length_le (by omega)
  rw [e]
  simp (disch:=omega) only [AS.start,↓Xl,wD,↓X2,wA,seval,wE]
  exact Ix rfl rfl rfl
 simp (disch:=omega) only [AS.start,↓Xl,wD,↓X2,wA,seval,wE]
 refine Xf (fun k:Nat=>⟨8,[],[.osl 8 v 8 0 L.length,.fn 67 [],.any,.any,.any,I (k+1:Nat),.any,.any],[],[o0,o1,o2,o3,o4,o5,o6,o7,.row v (L.length*8) (Xr vC 8 v0 L)]⟩) (fun k=>k+1≤L.length∧∀ j,j<k→L.getD (j+1) v0≠L.getD j v0) (fun k=>L.length - k) 0 ⟨by omega,by omega⟩
  (Xb rfl (by simp [Xh,I]) (by simp [Xi]) rfl) ?_
 rintro k ⟨hk,hne⟩ next
 by_cases hk2:k+1<L.length
 rotate_left
 ·have e:A8 L (L.length - 1)=L:=by
   rw [HO L (L.length - 1) (by omega) (fun j hj=>hne j (by omega))]; exact List.take_of_length_le (by omega)
  rw [e]
  refine X0 1000 ?_
  simp (disch:=omega) only [↓Xl,wD,↓X2,wA,seval,wE]
  exact Ix rfl rfl rfl
 have c:=AR (L.getD (k+1) v0) (L.getD k v0) (hat _ hk2) (hat _ (by omega))
 have a1:=Jm vC 8 v0 L (k+1)
 have a2:=Ju vC 8 v0 L (k+1) (by omega)
 have b1:=Jm vC 8 v0 L k
 have b2:=Ju vC 8 v0 L k (by omega)
 have hj1:(((k+1:Nat):Int) - 1).toNat=k:=by omega
 by_cases he:L.getD (k+1) v0=L.getD k v0
 rotate_left
 ·have nx:=next (k+1)
  rw [decide_eq_false he] at c
  have hne2:∀ j,j<k+1→L.getD (j+1) v0≠L.getD j v0:=fun j hj=>by
   by_cases e:j=k
   ·rw [e]; exact he
   ·exact hne j (by omega)
  generalize L.getD (k+1) v0=x at *
  generalize L.getD k v0=y at *
  refine X0 1000 ?_
  simp (disch:=omega) only [hj1,a1,a2,b1,b2,vC,↓Xl,wD,↓X2,wA,seval,wE]
  refine X1 c rfl ?_
  simp (disch:=omega) only [↓Xl,wD,↓X2,wA,seval,wE]
  exact nx _ ⟨by omega,hne2⟩ (by omega) (Xb rfl (by simp [Xh,I]) (by simp [Xi]) rfl)
 rw [decide_eq_true he] at c
 have hcm:A8 L k=L.take (k+1):=HO L k (by omega) hne
 have hcm2:A8 L (k+1)=L.take (k+1):=by rw [bF,if_pos he,hcm]
 clear next he
 refine X0 1000 ?_
 generalize hx:L.getD (k+1) v0=x at a1 a2 c
 generalize hy:L.getD k v0=y at b1 b2 c
 simp (disch:=omega) only [hj1,a1,a2,b1,b2,vC,↓Xl,wD,↓X2,wA,seval,wE]
 refine X1 c rfl ?_
 simp (disch:=omega) only [↓Xl,wD,↓X2,wA,seval,wE]
 refine Xf (fun p:Nat×List V2=>⟨8,[],[.osl 8 v 8 0 L.length,.fn 67 [],.any,.any,.any,I (A8 L (k+1+p.1)).length,.osl 8 v 8 ((k+1)*8) (L.length - (k+1)),I (p.1+1:Nat)],[],[o0,o1,o2,o3,o4,o5,o6,o7,.row v (L.length*8) (Xr vC 8 v0 p.2)]⟩)
  (fun p=>k+1+p.1<L.length∧p.2.length=L.length∧p.2.take (A8 L (k+1+p.1)).length=A8 L (k+1+p.1)∧(A8 L (k+1+p.1)).length≤k+1+p.1∧∀ i,k+1+p.1≤i→i<L.length→p.2.getD i v0=L.getD i v0) (fun p=>L.length - p.1) (0,L)
  ⟨by show k+1+0<L.length; omega,rfl,by show L.take (A8 L (k+1)).length=A8 L (k+1); rw [hcm2,List.length_take,Nat.min_eq_left (by omega)],by show (A8 L (k+1)).length≤k+1; rw [hcm2,List.length_take]; omega,fun i _ _=>rfl⟩
  (Xb rfl (by simp [Xh,hcm2,I]; omega) (by simp [Xi]) rfl) ?_
 clear hcm hcm2 a1 a2 b1 b2 c hx hy
 rintro ⟨q,C⟩ ⟨g1,g2,g3,g4,g5⟩ next
 replace g1:k+1+q<L.length:=g1
 replace g2:C.length=L.length:=g2
 replace g3:C.take (A8 L (k+1+q)).length=A8 L (k+1+q):=g3
 replace g4:(A8 L (k+1+q)).length≤k+1+q:=g4
 replace g5:∀ i,k+1+q≤i→i<L.length→C.getD i v0=L.getD i v0:=g5
 by_cases hq:k+1+q+1<L.length
 rotate_left
 ·have e:k+1+q=L.length - 1:=by omega
  rw [e] at g3 g4
  clear next g5
  simp only [e]
  generalize A8 L (L.length - 1)=D at *
  refine X0 25 ?_
  simp (disch:=omega) only [lX,↓Xl,wD,↓X2,wA,seval,wE]
  have hgd:∀ i,i<D.length→C.getD i v0=D.getD i v0:=fun i hi=>by
   have:(C.take D.length)[i]?=C[i]?:=by rw [List.getElem?_take,if_pos hi]
   rw [List.getD_eq_getElem?_getD,List.getD_eq_getElem?_getD,← this,g3]
  refine Run.sub (s':=⟨8,[],[.osl 8 v 8 0 L.length,.any,.any,.any,.any,I D.length,.any,.any],[],[o0,o1,o2,o3,o4,o5,o6,o7,.row v (D.length*8) (Xr vC 8 v0 D)]⟩) ?_ (Sub.trans (QM 8 (D.length*8) (Xr vC 8 v0 D) rfl (by omega) (fun j hj=>by
   unfold Ly Xr
   rw [if_neg (by omega),hgd (j / 8) (by omega)])) (Xb rfl (by simp [Xh,I]) (by simp [Xi]) (by simp)))
  refine X0 1000 ?_
  simp (disch:=omega) only [↓Xl,wD,↓X2,wA,seval,wE]
  exact Ix rfl rfl rfl
 have s1:A8 L (k+1+(q+1))=if L.getD (k+1+q+1) v0=L.getD (k+1+q) v0 then A8 L (k+1+q) else A8 L (k+1+q) ++ [L.getD (k+1+q+1) v0]:=rfl
 have c:=AR (L.getD (k+1+q+1) v0) (L.getD (k+1+q) v0) (hat _ hq) (hat _ g1)
 have a1:∀ r,r<8→Xr vC 8 v0 C ((k+1)*8+(q+1)*8+r)=(vC (L.getD (k+1+q+1) v0)).getD r .any:=fun r hr=>by
  rw [show (k+1)*8+(q+1)*8+r=(k+1+q+1)*8+r by omega,Jm _ _ _ _ _ _ hr,g5 _ (by omega) hq]
 have a2:Xr vC 8 v0 C ((k+1)*8+(q+1)*8)=(vC (L.getD (k+1+q+1) v0)).getD 0 .any:=a1 0 (by omega)
 have b1:∀ r,r<8→Xr vC 8 v0 C ((k+1)*8+q*8+r)=(vC (L.getD (k+1+q) v0)).getD r .any:=fun r hr=>by
  rw [show (k+1)*8+q*8+r=(k+1+q)*8+r by omega,Jm _ _ _ _ _ _ hr,g5 _ (by omega) g1]
 have b2:Xr vC 8 v0 C ((k+1)*8+q*8)=(vC (L.getD (k+1+q) v0)).getD 0 .any:=b1 0 (by omega)
 have hj2:(((q+1:Nat):Int) - 1).toNat=q:=by omega
 by_cases he:L.getD (k+1+q+1) v0=L.getD (k+1+q) v0
 ·rw [if_pos he] at s1
  rw [decide_eq_true he] at c
  have nx:=next (q+1,C)
  simp only [s1] at nx
  clear next he s1
  generalize L.getD (k+1+q+1) v0=x at *
  generalize L.getD (k+1+q) v0=y at *
  generalize A8 L (k+1+q)=D at *
  refine X0 1000 ?_
  simp (disch:=omega) only [hj2,a1,a2,b1,b2,vC,↓Xl,wD,↓X2,wA,seval,wE]
  refine X1 c rfl ?_
  simp (disch:=omega) only [↓Xl,wD,↓X2,wA,seval,wE]
  exact nx _ ⟨by omega,g2,g3,by omega,fun i h1 h2=>g5 i (by omega) h2⟩ (by omega) (Xb rfl (by simp [Xh,I]) (by simp [Xi]) rfl)
 rw [if_neg he] at s1
 rw [decide_eq_false he] at c
 have hset:=NL C (A8 L (k+1+q)) (L.getD (k+1+q+1) v0) (by omega) g3
 have e1:=pm C (A8 L (k+1+q)).length (L.getD (k+1+q+1) v0) (by omega)
 have nx:=next (q+1,C.set (A8 L (k+1+q)).length (L.getD (k+1+q+1) v0))
 simp only [s1] at nx
 have hgd:∀ i,k+1+(q+1)≤i→i<L.length→(C.set (A8 L (k+1+q)).length (L.getD (k+1+q+1) v0)).getD i v0=L.getD i v0:=fun i h1 h2=>by
  rw [List.getD_eq_getElem?_getD,List.getElem?_set_ne (by omega),← List.getD_eq_getElem?_getD]; exact g5 i (by omega) h2
 clear next he s1 g5
 generalize L.getD (k+1+q+1) v0=x at *
 generalize L.getD (k+1+q) v0=y at *
 generalize A8 L (k+1+q)=D at *
 refine X0 1000 ?_
 simp (disch:=omega) only [hj2,a1,a2,b1,b2,vC,↓Xl,wD,↓X2,wA,seval,wE]
 refine X1 c rfl ?_
 simp (disch:=omega) only [hj2,a1,a2,b1,b2,vC,↓Xl,wD,↓X2,wA,seval,wE]
 exact nx _ ⟨by omega,by rw [List.length_set]; exact g2,by rw [List.length_append,List.length_singleton]; exact hset,by rw [List.length_append,List.length_singleton]; omega,hgd⟩ (by omega) (Xb rfl (by simp [Xh,I]) (by simp [Xi]) (by rw [← e1]; rfl))
def KD (p:PV):AV:=.ptr 25 (Xn (XW p)) 0
theorem QC (p:PV):KD p=.ptr 25 (Xn (XW p)) 0:=nrfl rfl
theorem JH (p:PV):Settled (KD p):=QK fun j hj=>Xg (XE p) j
theorem NI (a b:PV):Fn Tryz.prog 131 [JM a,JM b] (.fn 197 [KD a,KD b]):=by
 refine Fq Tryz.call131 Tryz.func131 5 [] [] [] (by simp [XI]) (X0 1000 ?_)
 simp (disch:=omega) only [AS.start,JM,XW,↓Xl,wD,↓X2,wA,seval,wE]
 refine AH rfl (AZ ⟨Kw (.inl rfl) (by omega) fun j hj=>?_,Kw (.inl rfl) (by omega) fun j hj=>?_,trivial⟩)
 ·exact (Xg (XE a) j).sees _
 ·exact (Xg (XE b) j).sees _
theorem GH (f:Nat→AV) (t:Bool):Settled (.sl 0 0 f t):=QS fun j hj=>absurd hj (Nat.not_lt_zero j)
def qT (i j k:Nat):List AV:=[I 0,I 1,I i,I j,I k] ++ (Qf ++ (Qf ++ Qf))
theorem R5 (i j k:Nat):∀ x∈qT i j k,Settled x:=by simp [qT,Qf,Xa,X3,GH]
theorem Ii (g:Nat→List FV) (h:∀ k,(g k).length≤(g (k+1)).length) {k k':Nat} (hk:k≤k'):(g k).length≤(g k').length:=by
 induction hk with
 | refl=>exact Nat.le_refl _
 | step _ ih=>exact Nat.le_trans ih (h _)
theorem kK (a b:PV) (e:Rat) {i j k:Nat} (hi:i<a.rim.length) (hj:j<b.rim.length) (hk:k≤min a.rim.length b.rim.length - 1):(KP a b e i ++ Z2 a b e i j ++ Zo a b e i j k).length≤(Bm a b e).length:=by
 have h1:=Ii (Zo a b e i j) (fun k=>by show _≤(Zo a b e i j k ++ _).length; simp) hk
 have h2:=Ii (Z2 a b e i) (fun k=>by show _≤(Z2 a b e i k ++ _).length; simp) (show j+1≤b.rim.length by omega)
 have h3:=Ii (KP a b e) (fun k=>by show _≤(KP a b e k ++ _).length; simp) (show i+1≤a.rim.length by omega)
 have e2:(Z2 a b e i (j+1)).length=(Z2 a b e i j).length+(Zo a b e i j (min a.rim.length b.rim.length - 1)).length:=by show (Z2 a b e i j ++ _).length=_; rw [List.length_append]
 have e3:(KP a b e (i+1)).length=(KP a b e i).length+(Z2 a b e i b.rim.length).length:=by show (KP a b e i ++ _).length=_; rw [List.length_append]
 have e4:(Bm a b e).length=(KP a b e a.rim.length).length:=rfl
 rw [List.length_append,List.length_append]
 omega
theorem IL (a b:PV) (e:Rat) (t:Tok) (m:Nat) (Hs:List FV→List AO) (la:a.rim.length≤1000) (lb:b.rim.length≤1000) (ha:0<a.rim.length) (hb:0<b.rim.length) (hHs:∀ D,NR m (Hs D)) (hce:t.ce.H.length≤m)
  (hy:∀ i j k D,i<a.rim.length→j<b.rim.length→k+1<min a.rim.length b.rim.length→D.length≤(Bm a b e).length→YCall Tryz.prog t [.agg (qT i j (k+1))] (Hs D) (.bool true) (Hs (D ++ DK a b e i j (k+1)))) :
  ICall Tryz.prog t 197 [.yld t.l,KD a,KD b] (Hs []) (Hs (Bm a b e)):=by
 refine ICall.intro (fn:=Tryz.f197) Tryz.call197 Tryz.func197 rfl mixed 9 [15,16,19,20] [] [] (by kernel_rfl) (Nat.le_of_ble_eq_true rfl) (by rw [(hHs []).1]; exact hce) (by rw [(hHs []).1]; exact fun o ho=>((hHs _).2 o ho).1) (X0 1000 ?_)
 simp (disch:=omega) only [AS.start,QC,XW,Xj,↓Xl,wD,↓X2,wA,seval,wE]
 refine Xf (fun i:Nat=>⟨9,[15,16,19,20],[.yld t.l,KD a,KD b,.any,I a.rim.length,I b.rim.length,.any,.any,.any],[(15,I a.rim.length),(16,I i)],Hs (KP a b e i)⟩) (fun i=>i≤a.rim.length) (fun i=>a.rim.length - i) 0 (by omega)
  (Xb rfl (by simp [Xh,QC,XW,Xj,Xw,X5,I]) (by simp [Xi,Xp,I]) (by simp [KP])) ?_
 intro i hi next
 by_cases hi2:i<a.rim.length
 rotate_left
 ·obtain rfl:i=a.rim.length:=by omega
  refine X0 1000 ?_
  simp (disch:=omega) only [QC,↓Xl,wD,↓X2,wA,seval,wE]
  exact oS rfl (by show (Hs _).take (Hs []).length=_; rw [(hHs []).1,← (hHs (KP a b e a.rim.length)).1,List.take_length]; rfl)
 refine X0 1000 ?_
 simp (disch:=omega) only [QC,↓Xl,wD,↓X2,wA,seval,wE]
 refine Xf (fun j:Nat=>⟨9,[15,16,19,20],[.yld t.l,KD a,KD b,.any,I a.rim.length,I b.rim.length,I i,.any,.any],[(19,I b.rim.length),(20,I j),(15,I a.rim.length),(16,I i)],Hs (KP a b e i ++ Z2 a b e i j)⟩) (fun j=>j≤b.rim.length) (fun j=>b.rim.length - j) 0 (by omega)
  (Xb rfl (by simp [Xh,QC,I]) (by simp [Xi,Xp,I]) (by simp [Z2])) ?_
 intro j hj next2
 by_cases hj2:j<b.rim.length
 rotate_left
 ·obtain rfl:j=b.rim.length:=by omega
  refine X0 1000 ?_
  simp (disch:=omega) only [QC,↓Xl,wD,↓X2,wA,seval,wE]
  exact next (i+1) _ (by omega) (by omega) (Xb rfl (by simp [Xh,QC,I]) (by simp [Xi,Xp,I]) (by simp [KP]))
 clear next
 have nx2:=next2 (j+1)
 rw [show Z2 a b e i (j+1)=Z2 a b e i j ++ Zo a b e i j (min a.rim.length b.rim.length - 1) from rfl,← List.append_assoc] at nx2
 have hpre:=fun k hk=>kK a b e (k:=k) hi2 hj2 hk
 generalize KP a b e i ++ Z2 a b e i j=D at *
 clear next2
 refine X0 1000 ?_
 simp (disch:=omega) only [QC,↓Xl,wD,↓X2,wA,seval,wE]
 refine Xf (fun k:Nat=>⟨9,[15,16,19,20],[.yld t.l,KD a,KD b,.any,I a.rim.length,I b.rim.length,I i,I j,I (k+1:Nat)],[(19,I b.rim.length),(20,I j),(15,I a.rim.length),(16,I i)],Hs (D ++ Zo a b e i j k)⟩) (fun k=>k≤min a.rim.length b.rim.length - 1) (fun k=>min a.rim.length b.rim.length - k) 0 (by omega)
  (Xb rfl (by simp [Xh,QC,I]) (by simp [Xi,Xp,I]) (by simp [Zo])) ?_
 intro k hk next3
 by_cases hk2:k+1<min a.rim.length b.rim.length
 rotate_left
 ·obtain rfl:k=min a.rim.length b.rim.length - 1:=by omega
  refine X0 1000 ?_
  simp (disch:=omega) only [QC,↓Xl,wD,↓X2,wA,seval,wE]
  exact nx2 _ (by omega) (by omega) (Xb rfl (by simp [Xh,QC,I]) (by simp [Xi,Xp,I]) (by simp))
 have nx3:=next3 (k+1)
 rw [show Zo a b e i j (k+1)=Zo a b e i j k ++ DK a b e i j (k+1) from rfl,← List.append_assoc] at nx3
 have hE:=hpre k (by omega)
 clear hpre
 generalize D ++ Zo a b e i j k=E at *
 obtain ⟨q1,q2⟩:=hHs E
 obtain ⟨q3,q4⟩:=hHs (E ++ DK a b e i j (k+1))
 refine X0 1000 ?_
 simp (disch:=omega) only [QC,↓Xl,wD,↓X2,wA,seval,wE]
 refine BK (t:=t) (H1:=Hs E) (H1':=Hs (E ++ DK a b e i j (k+1))) (rest:=[]) rfl rfl (List.mem_singleton.2 rfl) (hy i j k E hi2 hj2 hk2 hE) (List.append_nil _).symm (q3.trans q1.symm) (by rw [q1]; exact hce) ?_ (by rw [q1]; exact fun o ho=>(q2 o ho).1) (fun o ho=>(q2 o ho).2.1) (fun o ho=>(q4 o ho).2.1) (QI (fun o ho=>(q2 o ho).2.2) (fun o ho=>(q4 o ho).2.2)) ⟨?_,trivial⟩ ?_
 ·intro x hx
  rw [List.mem_singleton.1 hx]
  exact X9 (Qd (R5 _ _ _))
 ·exact Weak.rfl' _
 simp (disch:=omega) only [QC,↓Xl,wD,↓X2,wA,seval,wE]
 exact nx3 _ (by omega) (by omega) (Xb rfl (by simp [Xh,QC,I]) (by simp [Xi,Xp,I]) (by simp))
def Gt (p:FV→Bool) (s:List FV):Int:=if s.any p=true then (s.findIdx p:Nat) else -1
theorem I4 {s:List FV} {j:Nat} (h:j<s.length):s.getD j BT∈s:=by
 rw [List.getD_eq_getElem?_getD,List.getElem?_eq_getElem h]; exact List.getElem_mem h
theorem Wl {p:FV→Bool} {s:List FV} {j:Nat} (hj:j<s.length) (h:p (s.getD j BT)=true) (hno:∀ i,i<j→p (s.getD i BT)=false):Gt p s=j:=by
 have at_:∀ i (hi:i<s.length),s.getD i BT=s[i]:=fun i hi=>by rw [List.getD_eq_getElem?_getD,List.getElem?_eq_getElem hi]; rfl
 have e:s.findIdx p=j:=by
  rw [List.findIdx_eq hj]
  exact ⟨by rw [← at_ j hj]; exact h,fun i hi=>by rw [← at_ i (by omega)]; exact hno i hi⟩
 unfold Gt
 rw [if_pos (List.any_eq_true.2 ⟨_,I4 hj,h⟩),e]
theorem SM {p:FV→Bool} {s:List FV} (hno:∀ i,i<s.length→p (s.getD i BT)=false):Gt p s = -1:=by
 unfold Gt
 rw [if_neg]
 intro h
 obtain ⟨x,hx,hp⟩:=List.any_eq_true.1 h
 obtain ⟨i,hi,rfl⟩:=List.getElem_of_mem hx
 have:=hno i hi
 rw [List.getD_eq_getElem?_getD,List.getElem?_eq_getElem hi] at this
 simp only [Option.getD_some] at this
 rw [this] at hp; cases hp
theorem M3 (p:FV→Bool) (s:List FV):decide (0≤Gt p s)=s.any p:=by
 unfold Gt
 cases h:s.any p
 ·simp
 ·rw [if_pos rfl]; exact decide_eq_true (by omega)
theorem SG (s:List FV) (f:FuncId) (caps:List AV) (p:FV→Bool) (hl:s.length<1000000) (hc:∀ a∈caps,Settled a) (hp:∀ x∈s,Fn Tryz.prog f ([Ap x] ++ caps) (.bool (p x))) :
  Fn Tryz.prog 204 [OQ s,.fn f caps] (I (Gt p s)):=by
 refine Fn.intro (fn:=Tryz.f204) Tryz.call204 Tryz.func204 rfl mixed 6 [6,7,8] [] [] (by kernel_rfl) (Nat.le_of_ble_eq_true rfl) (by simpa [Z6] using J7 hc) (X0 1000 ?_)
 simp (disch:=omega) only [AS.start,Q4,↓Xl,wD,↓X2,wA,seval,wE]
 refine Xf (fun j:Nat=>⟨6,[6,7,8],[OQ s,.fn f caps,.any,.any,.any,.any],[(6,OQ s),(7,I s.length),(8,I j)],[]⟩) (fun j=>j≤s.length∧∀ i,i<j→p (s.getD i BT)=false) (fun j=>s.length - j) 0 ⟨by omega,by omega⟩
  (Xb rfl (by simp [Xh,Q4,I]) (by simp [Xi,Xp,Q4,I]) rfl) ?_
 rintro j ⟨hj,hno⟩ next
 by_cases hj2:j<s.length
 ·have v1:=fF s j
  have v2:=r7 s j
  refine X0 1000 ?_
  simp (disch:=omega) only [Q4,v1,v2,Qo,↓Xl,wD,↓X2,wA,seval,wE]
  refine XV (hp _ (I4 hj2)) (Qc _) ?_
  simp (disch:=omega) only [↓Xl,wD,↓X2,wA,seval,wE]
  refine QG (fun ht=>Xv (v:=I j) rfl rfl (Xa _) ?_) (fun hf=>next (j+1) _ ⟨by omega,Bn.2 ⟨hno,hf⟩⟩ (by omega) (Xb rfl (by simp [Xh,Q4,I]) (by simp [Xi,Xp,Q4,I]) rfl))
  rw [Wl hj2 ht hno]
 ·refine X0 1000 ?_
  simp (disch:=omega) only [Q4,↓Xl,wD,↓X2,wA,seval,wE]
  refine Xv (v:=I (-1)) rfl rfl (Xa _) ?_
  rw [SM fun i hi=>hno i (by omega)]
theorem Lm (s:List FV) (f:FuncId) (caps:List AV) (p:FV→Bool) (hl:s.length<1000000) (hc:∀ a∈caps,Settled a) (hp:∀ x∈s,Fn Tryz.prog f ([Ap x] ++ caps) (.bool (p x))) :
  Fn Tryz.prog 139 [OQ s,.fn f caps] (.bool (s.any p)):=by
 have hi:=M3 p s
 refine Fn.intro (fn:=Tryz.f139) Tryz.call139 Tryz.func139 rfl mixed 5 [] [] [] (by kernel_rfl) (Nat.le_of_ble_eq_true rfl) (by simpa [Z6] using J7 hc) (X0 1000 ?_)
 simp (disch:=omega) only [AS.start,↓Xl,wD,↓X2,wA,seval,wE]
 refine X1 (SG s f caps p hl hc hp) rfl ?_
 simp (disch:=omega) only [↓Xl,wD,↓X2,wA,seval,wE]
 exact Xv (v:=.bool (decide (0≤Gt p s))) rfl rfl (X3 _) (by rw [M3])
theorem Wa (a b:PV) (f g:FV) (ha:0<a.rim.length∧a.rim.length<1000000) (hb:0<b.rim.length∧b.rim.length<1000000) (nf:f.near) (ng:g.near) (hf:vb f.turn≤vm) (hg:vb g.turn≤vm) :
  Fn Tryz.prog 140 ([Ap g] ++ [me f,KD a,KD b]) (.bool (decide (Ml a.rim.length b.rim.length f g))):=by
 obtain ⟨V,hV⟩:∃ V,V=decide (Ml a.rim.length b.rim.length f g):=⟨_,rfl⟩
 rw [← hV]
 replace hV:=(Bool.eq_iff_iff.1 hV).trans decide_eq_true_iff
 have fin:∀ {s:AS} {v:Bool},s.get 5=.bool v→v=V→RetOk (J4 Tryz.prog Tryz.f140 [2,30000004] [] (.bool V)) s:=fun h e=>Xv rfl h (X3 _) (by rw [e])
 obtain ⟨f1,f2,f3⟩:=nf
 obtain ⟨g1,g2,g3⟩:=ng
 have d0:=Int.emod_nonneg (f.EA - g.EA) (show (a.rim.length:Int)≠0 by omega)
 have d1:=Int.emod_lt_of_pos (f.EA - g.EA) (show (0:Int)<a.rim.length by omega)
 have c1:=Zu (f.EA - g.EA) a.rim.length ha.1 (by omega) (by omega)
 have c2:=Zu (g.EB - (f.EA - g.EA) % a.rim.length) b.rim.length hb.1 (by omega) (by omega)
 have c3:=AR f.turn g.turn hf hg
 unfold Ml at hV
 generalize (f.EA - g.EA) % (a.rim.length:Int)=d at *
 generalize (g.EB - d) % (b.rim.length:Int)=r at *
 refine Fq Tryz.call140 Tryz.func140 7 [] [2,30000004] [] (by simp [QX,B6,JH]) (X0 1000 ?_)
 simp (disch:=omega) only [AS.start,QC,me,XW,Xj,Ap,Qo,List.cons_append,List.nil_append,↓Xl,wD,↓X2,wA,seval,wE]
 refine X1 c1 rfl ?_
 by_cases h1:f.M<g.M
 rotate_left
 ·simp (disch:=omega) only [↓Xl,wD,↓X2,wA,seval,wE]
  exact fin rfl (vN hV (fun hh=>h1 hh.1))
 by_cases h2:d+f.M≤g.M
 rotate_left
 ·simp (disch:=omega) only [↓Xl,wD,↓X2,wA,seval,wE]
  exact fin rfl (vN hV (fun hh=>h2 hh.2.1))
 simp (disch:=omega) only [↓Xl,wD,↓X2,wA,seval,wE]
 refine X1 c2 rfl ?_
 by_cases h3:r=f.EB
 rotate_left
 ·simp (disch:=omega) only [↓Xl,wD,↓X2,wA,seval,wE]
  exact fin rfl (vN hV (fun hh=>h3 hh.2.2.1))
 simp (disch:=omega) only [↓Xl,wD,↓X2,wA,seval,wE]
 refine X1 c3 rfl ?_
 simp (disch:=omega) only [↓Xl,wD,↓X2,wA,seval,wE]
 exact fin rfl (vI hV ⟨fun hh=>hh.2.2.2,fun hh=>⟨h1,h2,h3,hh⟩⟩)
def SF (W:List FV):AV:=.ptr 1 (Xn [OQ W]) 0
theorem ER (W:List FV):SF W=.ptr 1 (Xn [OQ W]) 0:=nrfl rfl
theorem Cc (W:List FV):Settled (SF W):=QK fun j hj=>by
 obtain rfl:j=0:=by omega
 exact Z6 W
theorem cW (a b:PV) (f:FV) (W:List FV) (ha:0<a.rim.length∧a.rim.length<1000000) (hb:0<b.rim.length∧b.rim.length<1000000) (hW:W.length<1000000) (nf:f.near) (hf:vb f.turn≤vm) (hall:∀ g∈W,g.near∧vb g.turn≤vm) :
  Fn Tryz.prog 138 ([Ap f] ++ [SF W,KD a,KD b]) (.bool (NQ a.rim.length b.rim.length W f)):=by
 have c:=Lm W 140 [me f,KD a,KD b] (fun g=>decide (Ml a.rim.length b.rim.length f g)) hW (by simp [B6,JH]) (fun g hg=>Wa a b f g ha hb nf (hall g hg).1 hf (hall g hg).2)
 change Fn _ _ _ (.bool (NQ a.rim.length b.rim.length W f)) at c
 generalize NQ a.rim.length b.rim.length W f=V at *
 refine Fq Tryz.call138 Tryz.func138 6 [] [] [] (by simp [QX,Cc,JH]) (X0 1000 ?_)
 simp (disch:=omega) only [AS.start,ER,QC,Q4,Ap,Qo,List.cons_append,List.nil_append,↓Xl,wD,↓X2,wA,seval,wE]
 refine Jo c rfl ⟨(Z6 W).sees _,AZ ⟨?_,(JH a).sees _,(JH b).sees _,trivial⟩,trivial⟩ (Zv _) ?_
 ·exact Kw (.inl rfl) (by omega) fun j hj=>(Xg (Qe f) j).sees _
 simp (disch:=omega) only [↓Xl,wD,↓X2,wA,seval,wE]
 exact Xv rfl rfl (X3 _) rfl
def Kp (a b:PV) (D:List FV):List AO:=[.row 0 25 (Xn (XW a)),.row 0 25 (Xn (XW b)),.row 0 1 (Xn [.osl 3 D.length 29 0 D.length]),.row D.length (D.length*29) (Xr Qo 29 BT D)]
theorem Vq (a b:PV) (D:List FV):Kp a b D=[.row 0 25 (Xn (XW a)),.row 0 25 (Xn (XW b)),.row 0 1 (Xn [.osl 3 D.length 29 0 D.length]),.row D.length (D.length*29) (Xr Qo 29 BT D)]:=nrfl rfl
theorem FF (a b:PV) (D:List FV) (m:Nat) (h:4≤m):∀ o∈Kp a b D,XS m o:=fun o ho=>by
 simp only [Kp,List.mem_cons,List.not_mem_nil,or_false] at ho
 rcases ho with rfl | rfl | rfl | rfl
 ·exact XM (XE a)
 ·exact XM (XE b)
 ·intro j hj
  obtain rfl:j=0:=by omega
  exact H3 (by omega)
 ·exact fun j _=>X9 (Xg (Qe _) _)
theorem O7 (a b:PV) (D:List FV):NR 4 (Kp a b D):=⟨rfl,fun o ho=>⟨FF a b D 4 (by omega) o ho,by
 simp only [Kp,List.mem_cons,List.not_mem_nil,or_false] at ho
 rcases ho with rfl | rfl | rfl | rfl <;> simp⟩⟩
def pC (i j k:Nat):List AV:=[I 0,I 1,I i,I j,I k] ++ (Zq ++ (Zq ++ Zq))
theorem R6 (i j k:Nat):∀ x∈pC i j k,Settled x:=by simp [pC,Zq,Xa,X3,GH]
theorem Ss (a b:PV) (f:FV) (n:Nat):A8 (A5 (Qa a b f n) ((Qa a b f n).length - 1)) ((A5 (Qa a b f n) ((Qa a b f n).length - 1)).length - 1)=Ky a b f n:=by
 rw [AB]
 by_cases h:0<(Qa a b f n).length
 ·exact Vt a b f n h
 have e:Qa a b f n=[]:=List.eq_nil_of_length_eq_zero (by omega)
 have e2:Ky a b f n=[]:=by
  refine List.eq_nil_iff_forall_not_mem.2 fun x hx=>?_
  have:x∈Qa a b f n:=(Ob a b f x n).2 ((ZH a b f x n).1 hx)
  rw [e] at this; cases this
 rw [e,e2]; rfl
theorem OK (a b:PV) {ta tb:Rat} (ha:GP a ta) (hb:GP b tb):Fn Tryz.prog 50 [JM a,JM b] (OQ (I1 a b (ta+tb))):=by
 have la:=(ZR _ ha.poly).1
 have lb:=(ZR _ hb.poly).1
 simp only [Xx,List.length_map] at la lb
 have cs:=NI a b
 obtain ⟨e,hT⟩:∃ e,e=ta+tb:=⟨_,rfl⟩
 rw [← hT]
 refine Fq Tryz.call50 Tryz.func50 15 [18,32,33,34,63,64,65] [] [5,6,7] (by simp [XI]) (X0 1000 ?_)
 simp (disch:=omega) only [AS.start,JM,XW,↓Xl,wD,↓X2,wA,seval,wE]
 refine X1 cs rfl ?_
 simp (disch:=omega) only [XW,↓Xl,wD,↓X2,wA,seval,wE]
 refine Run.sub (s':=⟨15,[18,32,33,34,63,64,65],[.any,.any,.ref 0 0 0,.ref 1 0 0,.any,.ref 2 0 0,.any,.any,.any,.any,.any,.any,.any,.any,.any],[(17,.fn 197 [KD a,KD b])],Kp a b []⟩) ?_
  ((QM 2 1 (fun _=>.sl 0 0 (fun _=>.any) true) rfl (Nat.le_refl _) (fun j hj=>by have e:j=0:=Nat.lt_one_iff.1 hj; subst e; rfl)).trans ((Er 2 29 (Xr Qo 29 BT []) rfl 1 (Nat.le_refl _)).trans ((QM 2 1 (Xn [.osl 3 0 29 0 0]) rfl (Nat.le_refl _) (fun j hj=>by have e:j=0:=Nat.lt_one_iff.1 hj; subst e; rfl)).trans (Xb rfl (by simp [Xh]) (by simp [Xi,Xp,QC,XW,Xj,Xw,X5,I]) (by simp [Kp,XW,Xj,Xw,X5,I])))))
 have hlenA:=O5 a b e la.2 lb.2 (by omega) (by omega)
 refine DS (gf:=197) (caps:=[KD a,KD b]) (Hn:=Kp a b (Bm a b e)) rfl rfl rfl (fun t ht=>?_) ?_
 ·have hce:t.ce.H.length≤4:=by rw [ht.ch]; exact Nat.le_refl _
  refine IL a b e t 4 (fun D=>Kp a b D) (by omega) (by omega) (by omega) (by omega) (fun D=>O7 a b D) hce fun i j k D hi hj hk hD=>?_
  have hst:∀ t lo hi,Cr a.rim.length b.rim.length ⟨0,1,i,j,(k+1:Nat),t,lo,hi⟩:=fun t lo hi=>⟨⟨by show (0:Int)≤i; omega,by show (i:Int)<_; omega⟩,⟨by show (0:Int)≤j; omega,by show (j:Int)<_; omega⟩,by show (1:Int)≤((k+1:Nat):Int); omega,by show ((k+1:Nat):Int)<_; omega,by show ((k+1:Nat):Int)<_; omega⟩
  have cp:=Gy a b (Jp i j (k+1) v0) (hst _ _ _) ha.even hb.even
  have wf:=Ys i j (k+1)
  have hfk:DK a b e i j (k+1)=if GU a b (Jp i j (k+1) v0) then Bt a b e i j (k+1) (Ky a b (Jp i j (k+1) v0) (k+1)) else []:=rfl
  rw [hfk]
  refine Df (str:=[]) (hcs:=[5,6,7]) ht mixed (by kernel_rfl) (by kernel_rfl) rfl (fun p hp=>?_) (fun o ho=>((O7 a b _).2 o ho).1) (fun l r hr=>?_)
  ·have hp':p=18:=by simpa using hp
   subst hp'
   exact Nat.le_of_ble_eq_true rfl
  show Run _ _ ⟨15,[18,32,33,34,63,64,65],[.any,.any,.ref 0 0 0,.ref 1 0 0,.any,.ref 2 0 0,.any,.any,.any,.any,.any,.any,.any,.any,.any],[(18,.agg (qT i j (k+1))),(17,.fn 197 [KD a,KD b])],Kp a b D⟩
  refine X0 1000 ?_
  simp (disch:=omega) only [Vq,QC,qT,Qf,List.cons_append,List.nil_append,↓Xl,wD,↓X2,wA,seval,wE]
  refine Ea hr ?_
  refine X0 1000 ?_
  simp (disch:=omega) only [XW,↓Xl,wD,↓X2,wA,seval,wE]
  refine XV cp ⟨Weak.rfl' _,Weak.rfl' _,Qi wf,trivial⟩ ?_
  by_cases hp:GU a b (Jp i j (k+1) v0)
  rotate_left
  ·rw [if_neg hp,List.append_nil]
   simp (disch:=omega) only [decide_eq_false hp,↓Xl,wD,↓X2,wA,seval,wE]
   exact kS rfl
  rw [if_pos hp]
  simp (disch:=omega) only [decide_eq_true hp,↓Xl,wD,↓X2,wA,seval,wE]
  have hZ:=FF a b D
  have cA:=Oc (.row 0 25 (Xn (XW a))) (.row 0 25 (Xn (XW b))) (.row 0 1 (Xn [.osl 3 D.length 29 0 D.length])) (.row D.length (D.length*29) (Xr Qo 29 BT D)) (.row 0 29 (Xn (pC i j (k+1)))) (fun m hm=>hZ m (by omega) _ (by simp [Kp])) (fun m hm=>hZ m (by omega) _ (by simp [Kp])) (fun m hm=>hZ m (by omega) _ (by simp [Kp])) (fun m hm=>hZ m (by omega) _ (by simp [Kp])) (fun m hm=>XM (R6 i j (k+1))) a b (Jp i j (k+1) v0) (hst _ _ _) ha.even hb.even
  rw [show (Jp i j (k+1) v0).M.toNat=k+1 from rfl] at cA
  have hAl:=Cv a b (Jp i j (k+1) v0) (k+1)
  have hAs:=E0 a b (Jp i j (k+1) v0) ha.even.near hb.even.near (k+1)
  have hct:=Ss a b (Jp i j (k+1) v0) (k+1)
  have hsm:=Ft a b (Jp i j (k+1) v0) ha.even.near hb.even.near (k+1)
  have hlen:=Es a b (Jp i j (k+1) v0) (k+1)
  have hcm2:=TR (A5 (Qa a b (Jp i j (k+1) v0) (k+1)) ((Qa a b (Jp i j (k+1) v0) (k+1)).length - 1))
  generalize Qa a b (Jp i j (k+1) v0) (k+1)=A at *
  generalize Ky a b (Jp i j (k+1) v0) (k+1)=L at *
  have hu8:∀ o∈[AO.row 0 25 (Xn (XW a)),.row 0 25 (Xn (XW b)),.row 0 1 (Xn [.osl 3 D.length 29 0 D.length]),.row D.length (D.length*29) (Xr Qo 29 BT D),.row 0 29 (Xn (pC i j (k+1))),.dead,.dead,.dead],o≠AO.unborn:=by simp
  have cS:=l9 (.row 0 25 (Xn (XW a))) (.row 0 25 (Xn (XW b))) (.row 0 1 (Xn [.osl 3 D.length 29 0 D.length])) (.row D.length (D.length*29) (Xr Qo 29 BT D)) (.row 0 29 (Xn (pC i j (k+1)))) .dead .dead .dead hu8 A.length A (fun x hx=>by have:=hAs x hx; unfold vm; omega) (by omega)
  have hSl:=AB A (A.length - 1)
  have hSm:∀ x∈A5 A (A.length - 1),vb x≤vm:=fun x hx=>by
   by_cases h0:0<A.length
   ·have:=hAs x (II A (A.length - 1) (by omega) x hx); unfold vm; omega
   ·rw [List.eq_nil_of_length_eq_zero (show (A5 A (A.length - 1)).length=0 by omega)] at hx; cases hx
  have cC:=Su (.row 0 25 (Xn (XW a))) (.row 0 25 (Xn (XW b))) (.row 0 1 (Xn [.osl 3 D.length 29 0 D.length])) (.row D.length (D.length*29) (Xr Qo 29 BT D)) (.row 0 29 (Xn (pC i j (k+1)))) .dead .dead .dead A.length (A5 A (A.length - 1)) hSm (by omega)
  rw [hct] at cC
  rw [hSl] at cC
  generalize A5 A (A.length - 1)=S at *
  refine Ke rfl cA (QI (by simp) (by simp)) (fun id hh=>absurd (List.mem_of_getElem? hh) (by simp)) ⟨Weak.rfl' _,Weak.rfl' _,Qi wf,trivial⟩ ?_
  simp (disch:=omega) only [↓Xl,wD,↓X2,wA,seval,wE]
  refine Ke rfl cS (QI (by simp) (by simp)) (fun id hh=>absurd (List.mem_of_getElem? hh) (by simp)) (Qc _) ?_
  simp (disch:=omega) only [↓Xl,wD,↓X2,wA,seval,wE]
  refine Ke rfl cC (QI (by simp) (by simp)) (fun id hh=>absurd (List.mem_of_getElem? hh) (by simp)) (Qc _) ?_
  simp (disch:=omega) only [↓Xl,wD,↓X2,wA,seval,wE]
  have hvc:∀ a:V2,∀ x∈vC a,Settled x:=fun a=>by simp [vC,X4,X3]
  have bAll:∀ (E:List FV) (f:FV),∀ o∈Kp a b E ++ [.row 0 29 (Xn (Qo f)),.dead,.dead,.dead,.row A.length (L.length*8) (Xr vC 8 v0 L)],XS 9 o:=fun E f o ho=>by
   rcases List.mem_append.1 ho with ho | ho
   ·exact FF a b E 9 (by omega) o ho
   simp only [List.mem_cons,List.not_mem_nil,or_false] at ho
   rcases ho with rfl | rfl | rfl | rfl | rfl
   ·exact XM (Qe f)
   ·trivial
   ·trivial
   ·trivial
   ·exact fun j _=>X9 (Xg (hvc _) _)
  refine Xf (fun w:Nat×V2×V2×V2=>⟨15,[18,32,33,34,63,64,65],[.any,.any,.ref 0 0 0,.ref 1 0 0,.any,.ref 2 0 0,.ref 4 0 0,.any,.any,.any,.any,.any,.any,.any,.any],[(32,.osl 8 A.length 8 0 L.length),(33,I L.length),(34,I w.1)],Kp a b (D ++ Bt a b e i j (k+1) (L.take w.1)) ++ [.row 0 29 (Xn (Qo ⟨0,1,i,j,(k+1:Nat),w.2.1,w.2.2.1,w.2.2.2⟩)),.dead,.dead,.dead,.row A.length (L.length*8) (Xr vC 8 v0 L)]⟩) (fun w=>w.1≤L.length) (fun w=>L.length - w.1) (0,v0,v0,v0) (Nat.zero_le _)
   (Sub.trans (Da 4 (Qo (Jp i j (k+1) v0)) rfl rfl wf) (Xb rfl (by simp [Xh,I]) (by simp [Xi,Xp,I]) (by simp [Kp,XW,Xj,Xw,X5,Bt,Jp,I]))) ?_
  rintro ⟨t,T,lo,hi'⟩ ht nextt
  replace ht:t≤L.length:=ht
  by_cases ht2:t<L.length
  rotate_left
  ·obtain rfl:t=L.length:=by omega
   rw [List.take_length] at *
   refine X0 1000 ?_
   simp (disch:=omega) only [Kp,↓Xl,wD,↓X2,wA,seval,wE]
   exact kS rfl
  have hx:=hsm (L.getD t v0) (Jr ht2)
  have htk:=SH a b e i j (k+1) L t ht2
  have v1:=Jm vC 8 v0 L t
  have v2:=Ju vC 8 v0 L t (by omega)
  have htl:=LW a b e i j (k+1) (L.take t)
  rw [List.length_take] at htl
  generalize L.getD t v0=x at *
  have ca:=EC a b ⟨0,1,i,j,(k+1:Nat),x,lo,hi'⟩ ha.even hb.even (by show vb x≤1000; omega) ha.tol hb.tol (by have:=ha.qt; omega) (by have:=hb.qt; omega)
  rw [← hT] at ca
  have hag:XC a.rim b.rim ⟨0,1,i,j,(k+1:Nat),x,lo,hi'⟩ e=XC a.rim b.rim (Jp i j (k+1) x) e:=rfl
  rw [hag] at ca
  have hqe:qb e≤41:=by rw [hT]; have:=Kt ta tb; have:=ha.qt; have:=hb.qt; omega
  have hfine:(AC a b (Jp i j (k+1) x) e).fine:=by
   obtain ⟨h1,h2⟩:=O0 a b (Jp i j (k+1) x) ha.even.near hb.even.near e (by show vb x≤60; omega)
   exact ⟨by show vb x≤60; omega,by show vb (XC a.rim b.rim (Jp i j (k+1) x) e).1≤300; omega,by show vb (XC a.rim b.rim (Jp i j (k+1) x) e).2.1≤300; omega⟩
  have cc:=LS a b _ ha hb hfine
  rw [← hT] at cc
  have hok:Gn a b e i j (k+1) x=((XC a.rim b.rim (Jp i j (k+1) x) e).2.2 && A2 a b (AC a b (Jp i j (k+1) x) e) e):=rfl
  have hsf:AC a b (Jp i j (k+1) x) e=⟨0,1,i,j,(k+1:Nat),x,(XC a.rim b.rim (Jp i j (k+1) x) e).1,(XC a.rim b.rim (Jp i j (k+1) x) e).2.1⟩:=rfl
  rw [hok,hsf] at htk
  rw [hsf] at cc
  generalize XC a.rim b.rim (Jp i j (k+1) x) e=G at *
  obtain ⟨g1,g2,ok⟩:=G
  simp only at htk cc ca
  have nx2:=nextt (t+1,x,g1,g2)
  rw [htk,← List.append_assoc] at nx2
  have hDl:(D ++ Bt a b e i j (k+1) (L.take t)).length≤24000+12:=by rw [List.length_append]; omega
  generalize D ++ Bt a b e i j (k+1) (L.take t)=E at *
  generalize A2 a b ⟨0,1,i,j,(k+1:Nat),x,g1,g2⟩ e=q at *
  refine X0 1000 ?_
  simp (disch:=omega) only [Kp,vC,Qo,XW,Xj,List.cons_append,List.nil_append,v1,v2,↓Xl,wD,↓X2,wA,seval,wE]
  refine X1 ca rfl ?_
  cases ok with
  | false =>
   simp only [Bool.false_and,Bool.false_eq_true,if_false,List.append_nil] at nx2
   simp (disch:=omega) only [↓Xl,wD,↓X2,wA,seval,wE]
   exact nx2 _ (by show t+1≤L.length; omega) (by show L.length - (t+1)<L.length - t; omega) (XA (m:=9) (Nat.le_add_right 4 5) rfl (by simp [Xh,I]) (by simp [Xi,Xp,I]) (by simp [Kp,XW,Qo,Xj,Xw,X5,I,sg]) (by simp [Xz]) (by simp [Xz]) (bAll _ _))
  | true =>
   simp (disch:=omega) only [↓Xl,wD,↓X2,wA,seval,wE]
   refine X1 cc rfl ?_
   cases q with
   | false =>
    simp only [Bool.and_false,Bool.false_eq_true,if_false,List.append_nil] at nx2
    simp (disch:=omega) only [↓Xl,wD,↓X2,wA,seval,wE]
    exact nx2 _ (by show t+1≤L.length; omega) (by show L.length - (t+1)<L.length - t; omega) (XA (m:=9) (Nat.le_add_right 4 5) rfl (by simp [Xh,I]) (by simp [Xi,Xp,I]) (by simp [Kp,XW,Qo,Xj,Xw,X5,I,sg]) (by simp [Xz]) (by simp [Xz]) (bAll _ _))
   | true =>
    simp only [Bool.and_true,if_true] at nx2
    have hap:=Qq Qo 29 BT E ⟨0,1,i,j,(k+1:Nat),x,g1,g2⟩ (by omega)
    have hEl:(E ++ [(⟨0,1,i,j,(k+1:Nat),x,g1,g2⟩:FV)]).length=E.length+1:=by simp
    simp (disch:=omega) only [↓Xl,wD,↓X2,wA,seval,wE]
    refine ⟨U5 ⟨0,1,i,j,(k+1:Nat),x,g1,g2⟩,?_⟩
    exact nx2 _ (by show t+1≤L.length; omega) (by show L.length - (t+1)<L.length - t; omega) (XA (m:=9) (Nat.le_add_right 4 5) rfl (by simp [Xh,I]) (by simp [Xi,Xp,I]) (by simp only [Kp,hEl,← hap]; rfl) (by simp [Xz]) (by simp [Xz]) (bAll _ _))
 have hfin:∀ f∈Bm a b e,f.near∧vb f.turn≤vm:=fun f hf=>by
  rw [hT] at hf
  obtain ⟨h1,h2,_⟩:=OM ha hb hf
  exact ⟨h1,by unfold vm; omega⟩
 have hdef:I1 a b e=(Bm a b e).filter fun f=>!NQ a.rim.length b.rim.length (Bm a b e) f:=rfl
 rw [hdef]
 clear hdef
 show Run _ _ ⟨15,[18,32,33,34,63,64,65],[.any,.any,.ref 0 0 0,.ref 1 0 0,.any,.ref 2 0 0,.any,.any,.any,.any,.any,.any,.any,.any,.any],[(17,.fn 197 [KD a,KD b])],Kp a b (Bm a b e)⟩
 generalize Bm a b e=W at *
 refine Run.sub (s':=⟨15,[18,32,33,34,63,64,65],[.any,.any,KD a,KD b,.any,SF W,.any,.any,.any,.any,.any,.any,.any,.any,.any],[],[]⟩) ?_
  ((Qu 0 rfl).trans ((Qu 1 rfl).trans ((Qu 3 rfl).trans ((Zk 2 (Xn [OQ W]) rfl (fun j hj=>by
   obtain rfl:j=0:=by omega
   exact Ev (M:=W.length*29) rfl (Nat.le_refl _) (fun h=>by rw [h]) (fun j hj=>QT _ _))).trans ((Qu 2 rfl).trans ((BG 2 rfl rfl (by omega)).trans ((BG 3 rfl rfl (by omega)).trans ((BG 5 rfl rfl (by omega)).trans
   (XA (m:=0) (Nat.zero_le _) rfl (by simp [AS.put,Xh,QC,ER]) (by simp [AS.put,Xi]) (by simp) (by simp [Xz,X9 (JH a),X9 (JH b),X9 (Cc W)]) (by simp [Xz]) (by simp))))))))))
 refine X0 1000 ?_
 simp (disch:=omega) only [QC,ER,Q4,↓Xl,wD,↓X2,wA,seval,wE]
 have sCl:Settled (.fn 138 [SF W,KD a,KD b]):=J7 (by simp [Cc,JH])
 have bCl:Kd 1 (.fn 138 [SF W,KD a,KD b])=True:=eq_true (X9 sCl)
 have bW:Kd 1 (OQ W)=True:=eq_true (X9 (Z6 W))
 have b3:∀ v n l,XS 1 (.row v n (Xr Qo 29 BT l))=True:=fun v n l=>eq_true fun j _=>X9 (Xg (Qe _) _)
 refine Xf (fun i:Nat=>⟨15,[18,32,33,34,63,64,65],[.any,.any,.any,.any,.any,.any,.any,.any,.any,.any,.any,.fn 138 [SF W,KD a,KD b],.osl 0 ((W.take i).filter (fun f=>!NQ a.rim.length b.rim.length W f)).length 29 0 ((W.take i).filter (fun f=>!NQ a.rim.length b.rim.length W f)).length,.any,.any],[(65,I i),(64,I W.length),(63,OQ W)],[.row ((W.take i).filter (fun f=>!NQ a.rim.length b.rim.length W f)).length (((W.take i).filter (fun f=>!NQ a.rim.length b.rim.length W f)).length*29) (Xr Qo 29 BT ((W.take i).filter (fun f=>!NQ a.rim.length b.rim.length W f)))]⟩) (fun i=>i≤W.length∧((W.take i).filter (fun f=>!NQ a.rim.length b.rim.length W f)).length≤i) (fun i=>W.length - i) 0 ⟨by omega,by simp⟩
  (Sub.trans (QL 12 29 (Xr Qo 29 BT []) rfl) (Xb rfl (by simp [AS.put,Xh,ER,QC,Q4,I]) (by simp [AS.put,Xi,Xp,Q4,I]) (by simp [AS.put]))) ?_
 rintro i ⟨hi,hil⟩ next
 by_cases hi2:i<W.length
 rotate_left
 ·obtain rfl:i=W.length:=by omega
  rw [List.take_length]
  refine X0 1000 ?_
  simp (disch:=omega) only [Q4,↓Xl,wD,↓X2,wA,seval,wE]
  exact kp _ rfl rfl rfl
 have nx:=next (i+1)
 rw [Wb _ _ W i hi2] at nx
 generalize (W.take i).filter (fun f=>!NQ a.rim.length b.rim.length W f)=D at *
 obtain ⟨n1,n2⟩:=hfin _ (Jr (d:=BT) hi2)
 have v1:=fF W i
 have v2:=r7 W i
 have c:=cW a b (W.getD i BT) W ⟨by omega,by omega⟩ ⟨by omega,by omega⟩ (by omega) n1 n2 hfin
 generalize W.getD i BT=f at *
 generalize NQ a.rim.length b.rim.length W f=q at *
 refine X0 1000 ?_
 simp (disch:=omega) only [Q4,v1,v2,Qo,↓Xl,wD,↓X2,wA,seval,wE]
 refine X1 c rfl ?_
 cases q with
 | true =>
  rw [if_pos rfl,List.append_nil] at nx
  simp (disch:=omega) only [Q4,↓Xl,wD,↓X2,wA,seval,wE]
  exact nx _ ⟨by omega,by omega⟩ (by omega) (XA (m:=1) (Nat.zero_le _) rfl (by simp [Xh,I]) (by simp [Xi,Xp,Q4,I]) (by simp) (by simp [Xz,bCl]) (by simp [Xz,bW]) (by simp [b3]))
 | false =>
  rw [if_neg (by decide)] at nx
  have hap:=Qq Qo 29 BT D f (by omega)
  have hDl:(D ++ [f]).length=D.length+1:=by simp
  simp (disch:=omega) only [Q4,↓Xl,wD,↓X2,wA,seval,wE]
  refine ⟨U5 f,nx _ ⟨by omega,by omega⟩ (by omega) (XA (m:=1) (Nat.zero_le _) rfl (by simp [Xh,hDl,I]) (by simp [Xi,Xp,Q4,I]) (by simp only [hDl,← hap]; rfl) (by simp [Xz,bCl]) (by simp [Xz,bW]) (by simp [b3]))⟩
theorem SI {a b:PV} {e:Rat} {f:FV} (h:f∈Bm a b e) (ha:0<a.rim.length) (hb:0<b.rim.length):AC a b f e=f:=by
 obtain ⟨i,j,k,t,hi,hj,k0,kn,km,hp,ht,ho,rfl⟩:=(Ct a b e f ha hb).1 h
 rfl
theorem Hm {p:PV} {t:Rat} (h:GP p t):0<p.rim.length∧p.rim.length≤12:=by have:=h.poly.1; simp [Xx] at this; omega
structure Fnd (a b:PV) (e:Rat) (L:List FV):Prop where
 len:L.length≤24000
 fine:∀ f∈L,f.fine
 self:∀ f∈L,AC a b f e=f
 ok:∀ f∈L,A1 a b f e=0
theorem OL {a b:PV} {ta tb:Rat} (ha:GP a ta) (hb:GP b tb):Fnd a b (ta+tb) (I1 a b (ta+tb)):=by
 have la:=Hm ha; have lb:=Hm hb
 refine ⟨Nat.le_trans (List.length_filter_le _ _) (O5 a b (ta+tb) la.2 lb.2 la.1 lb.1),fun f hf=>?_,fun f hf=>SI (List.mem_filter.1 hf).1 la.1 lb.1,fun f hf=>Gk (List.mem_filter.1 hf).1 la.1 lb.1⟩
 obtain ⟨_,h1,h2,h3⟩:=OM ha hb (List.mem_filter.1 hf).1
 exact ⟨by omega,by omega,by omega⟩
theorem Hy {a b:PV} {e:Rat} {f:FV} (h:f∈Bm a b e) (ha:0<a.rim.length) (hb:0<b.rim.length):f.A=0∧f.B=1∧(0≤f.EA∧f.EA<a.rim.length)∧(0≤f.EB∧f.EB<b.rim.length)∧1≤f.M∧f.M<a.rim.length∧f.M<b.rim.length:=by
 obtain ⟨i,j,k,t,hi,hj,k0,kn,km,hp,ht,ho,rfl⟩:=(Ct a b e f ha hb).1 h
 refine ⟨rfl,rfl,?_⟩
 show (0≤(i:Int)∧(i:Int)<a.rim.length)∧(0≤(j:Int)∧(j:Int)<b.rim.length)∧1≤(k:Int)∧(k:Int)<a.rim.length∧(k:Int)<b.rim.length
 omega
theorem VR {a b:PV} {e:Rat} {f:FV} (h:A1 a b f e=0) (hA:f.A=0) (hB:f.B=1) (ha:0<a.rim.length) (hb:0<b.rim.length):f∈Bm a b e:=by
 obtain ⟨h1,h2,h3,⟨h4,h5,h6⟩,h7⟩:=(EL a b f e).1 h
 obtain ⟨A,B,EA,EB,M,t,lo,hi⟩:=f
 simp only at hA hB
 subst hA hB
 obtain ⟨⟨x1,x2⟩,⟨x3,x4⟩,x5,x6,x7⟩:=h1
 simp only at x1 x2 x3 x4 x5 x6 x7
 obtain ⟨i,rfl⟩:=Int.eq_ofNat_of_zero_le x1
 obtain ⟨j,rfl⟩:=Int.eq_ofNat_of_zero_le x3
 obtain ⟨k,rfl⟩:=Int.eq_ofNat_of_zero_le (show 0≤M by omega)
 simp only at h5 h6
 obtain ⟨k',q1,q2,q3⟩:=h3
 have hs:(⟨0,1,(i:Int),(j:Int),(k:Int),t,lo,hi⟩:FV)=AC a b (Jp i j k t) e:=by
  show _=(⟨0,1,(i:Int),(j:Int),(k:Int),t,(XC a.rim b.rim (Jp i j k t) e).1,(XC a.rim b.rim (Jp i j k t) e).2.1⟩:FV)
  rw [show XC a.rim b.rim (Jp i j k t) e=XC a.rim b.rim ⟨0,1,(i:Int),(j:Int),(k:Int),t,lo,hi⟩ e from rfl,h5,h6]
 refine (Ct a b e _ ha hb).2 ⟨i,j,k,t,by omega,by omega,by omega,by omega,by omega,h2,?_,?_,hs⟩
 ·rw [ZH]
  exact ⟨k',by simpa using q1,q2,q3⟩
 ·unfold Gn
  rw [Bool.and_eq_true,← hs]
  exact ⟨h4,h7⟩
def Bd (R:List (Int×Int)):PV:=⟨0,0,R,List.replicate R.length false,List.replicate R.length 0,RQ.of 0,RQ.of (Rat.divInt 1 1),RQ.of (Rat.divInt 1 1),RQ.of (Rat.divInt 1 1),RQ.of 0⟩
theorem Im (R:List (Int×Int)) (hR:R.length<1000000):Fn Tryz.prog 130 [Ck R] (JM (Bd R)):=by
 have o1:=Je 1 1 ⟨by omega,by omega⟩ ⟨by omega,by omega⟩
 obtain ⟨V,hV⟩:∃ V,V=JM (Bd R):=⟨_,rfl⟩
 have sV:Settled V:=hV▸XI _
 rw [← hV]
 unfold Bd at hV
 generalize Rat.divInt 1 1=q1 at *
 refine Fq Tryz.call130 Tryz.func130 4 [] [2,30000003] [] (by simp [Qn]) (X0 1000 ?_)
 simp (disch:=omega) only [AS.start,Xj,↓Xl,wD,↓X2,wA,seval,wE]
 refine X1 o1 rfl ?_
 simp (disch:=omega) only [Xj,↓Xl,wD,↓X2,wA,seval,wE]
 subst hV
 have h2:∀ (H:List AO),H[2]?=some (.row 0 R.length fun _=>.bool false)→Jn H (.osl 2 0 1 0 R.length) (KN (List.replicate R.length false)):=fun H ho=>by
  rw [Xw,List.length_replicate]
  refine QD (.inl ho) (by omega) (fun h=>by rw [h]) fun j hj=>?_
  rw [JV,List.getD_eq_getElem?_getD,List.getElem?_replicate]
  split <;> exact (X3 _).sees _
 have h3:∀ (H:List AO),H[3]?=some (.row 0 R.length fun _=>.int .i64 0)→Jn H (.osl 3 0 1 0 R.length) (X6 (List.replicate R.length 0)):=fun H ho=>by
  rw [X5,List.length_replicate]
  refine QD (.inl ho) (by omega) (fun h=>by rw [h]) fun j hj=>?_
  rw [JV,List.getD_eq_getElem?_getD,List.getElem?_replicate]
  split <;> exact (Xa _).sees _
 have h4:∀ (H:List AO) (f:Nat→AV) (t:Bool),Jn H (.sl 0 0 f t) (X6 (RQ.of 0).pd):=fun H f t=>by
  have e:(RQ.of 0).pd=[]:=by rw [← L0]; rfl
  rw [e]; exact XG (X4 _) (Q6 _ _)
 have h5:∀ (H:List AO) (f:Nat→AV) (t:Bool),Jn H (.sl 0 0 f t) (X6 (RQ.of 0).qd):=fun H f t=>by
  have e:(RQ.of 0).qd=[]:=by rw [← L0]; rfl
  rw [e]; exact XG (X4 _) (Q6 _ _)
 have h6:∀ (H:List AO),Jn H (.bool false) (.bool (RQ.of 0).pn):=fun H=>by
  have e:(RQ.of 0).pn=false:=by rw [← L0]; rfl
  rw [e]; exact (X3 _).sees _
 have h7:∀ (H:List AO),Jn H (.bool false) (.bool (RQ.of 0).qn):=fun H=>(X3 _).sees _
 refine Fg rfl EY rfl rfl rfl ?_
 refine Az ⟨(Xa _).sees _,(Xa _).sees _,(Qn _).sees _,h2 _ rfl,h3 _ rfl,h6 _,h4 _ _ _,h7 _,h5 _ _ _,(X3 _).sees _,(X4 _).sees _,(X3 _).sees _,(X4 _).sees _,(X3 _).sees _,(X4 _).sees _,(X3 _).sees _,(X4 _).sees _,(X3 _).sees _,(X4 _).sees _,(X3 _).sees _,(X4 _).sees _,h6 _,h4 _ _ _,h7 _,h5 _ _ _,trivial⟩
theorem Mo (l:List Int):GP (Zg l) (p5 l):=by
 have hro:=Nz l
 have hl:=Mw l
 have b10:=Xt l 10 3 (by omega)
 have q:=Be (Ab.atF l 10 3) 4 ⟨by omega,by omega⟩ ⟨by omega,by omega⟩
 refine ⟨⟨by have:=hro.1; omega,by omega,by omega,fun c hc=>?_⟩,hro.2.2,rfl,?_⟩
 ·have:=hro.2.1 c hc; omega
 ·show qb (Rat.divInt (Ab.atF l 10 3) 4)≤20; omega
theorem WJ (l m:List Int) (hl:AL l) (hl2:l.length<9223372036854775808) (hm:AL m) (hm2:m.length<9223372036854775808) :
  ∃ (A B:PV) (ta tb:Rat),Fn Tryz.prog 38 [X6 l,X6 m] (.tup [JM A,JM B])∧GP A ta∧GP B tb∧A.small∧B.small:=by
 by_cases h:0<m.length
 ·have c1:=Mp l hl hl2
  have c2:=Mp m hm hm2
  have s1:=F9 l; have s2:=F9 m
  have g1:=Mo l; have g2:=Mo m
  refine ⟨Zg l,Zg m,_,_,?_,g1,g2,s1,s2⟩
  generalize Zg l=A at *
  generalize Zg m=B at *
  refine Fq Tryz.call38 Tryz.func38 7 [] [4,50000006] [] (by simp [X4]) (X0 1000 ?_)
  simp (disch:=omega) only [AS.start,X5,↓Xl,wD,↓X2,wA,seval,wE]
  refine X1 c1 rfl ?_
  simp (disch:=omega) only [X5,↓Xl,wD,↓X2,wA,seval,wE]
  refine X1 c2 rfl ?_
  simp (disch:=omega) only [JM,XW,↓Xl,wD,↓X2,wA,seval,wE]
  exact K8 rfl (Xm EY rfl rfl rfl) (Xm EY rfl rfl rfl) ((XI A).sees _) ((XI B).sees _)
 ·obtain ⟨A,B,F,ta,tb,cP,gA,gB,sA,sB,_⟩:=kG l hl
  refine ⟨A,B,ta,tb,?_,gA,gB,sA,sB⟩
  refine Fq Tryz.call38 Tryz.func38 7 [] [4,50000006] [] (by simp [X4]) (X0 1000 ?_)
  simp (disch:=omega) only [AS.start,X5,↓Xl,wD,↓X2,wA,seval,wE]
  refine X1 cP rfl ?_
  simp (disch:=omega) only [gL,XW,Qo,List.cons_append,List.nil_append,↓Xl,wD,↓X2,wA,seval,wE]
  exact K8 rfl (Xm EY rfl rfl rfl) (Xm EY rfl rfl rfl) ((XI A).sees _) ((XI B).sees _)
end
end Go.Ab.N
