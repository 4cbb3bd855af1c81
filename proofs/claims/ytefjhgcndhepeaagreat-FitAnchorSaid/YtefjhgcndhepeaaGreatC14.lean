/- Contracts of functions of these chapters, for every argument that fits, and what they need. -/
import Derived.Test.YtefjhgcndhepeaaGreatC13
import Derived.Shelf.Small.Bits
import Derived.Test.YtefjhgcndhepeaaGreatC7
import Derived.Test.YtefjhgcndhepeaaGreatC12
import Derived.Test.YtefjhgcndhepeaaGreatC10
import Derived.Test.YtefjhgcndhepeaaGreatC6
import Derived.Test.YtefjhgcndhepeaaGreatC11
import Derived.Test.YtefjhgcndhepeaaGreatC8
set_option linter.unusedSimpArgs false
set_option linter.unusedVariables false
open Nat renaming reducePow → Y1, reduceLT → Y2, reduceLeDiff → Y3, reduceEqDiff → Y4, reduceAdd → Y5, reduceMul → Y6, reduceSub → Y7, reduceBEq → Y8, reduceDiv → Y9, reduceMod → YA
namespace Go.Ab.N
open Go Go.RowKit Go.Proofs
noncomputable section
set_option maxRecDepth 10000
set_option maxHeartbeats 4000000
open Classical
def SF (t u:V2):Int:=if QO t.x u.x≠0 then QO t.x u.x else QO t.y u.y
theorem cM (t u:V2):SF t u<0↔ZO t u:=by
 have h1:=ZB t.x u.x; have h2:=ZB t.y u.y
 have h3:=fP t.x u.x
 unfold SF ZO
 by_cases h:QO t.x u.x=0
 ·rw [if_neg (by simp [h])]
  have e:=h3.1 h
  rw [h2]
  constructor
  ·intro hh; exact .inr ⟨e,hh⟩
  ·rintro (hh | hh)
   ·rw [e] at hh; exact absurd hh (Rat.lt_irrefl)
   ·exact hh.2
 ·rw [if_pos h,h1]
  constructor
  ·intro hh; exact .inl hh
  ·rintro (hh | hh)
   ·exact hh
   ·exact absurd (h3.2 hh.1) h
theorem rB (a b:Int):Fn Tryz.prog 200 [.sl 2 2 (Xo [I a,I b]) false] (I (if a≠0 then a else b)):=by
 refine Fn.intro (fn:=Tryz.f200) Tryz.call200 Tryz.func200 rfl mixed 6 [6,7,8] [] [] (by kernel_rfl) (Nat.le_of_ble_eq_true rfl) (by
  intro x hx
  rw [List.mem_singleton.1 hx]
  exact J0 fun j hj=>Xg (l:=[I a,I b]) (by simp [Xa]) _) (X1 1000 ?_)
 simp (disch:=omega) only [AS.start,↓Xk,wD,↓X2,wA,seval,wE]
 refine Gn ?_
 refine X1 1000 ?_
 by_cases h:a=0
 rotate_left
 ·simp (disch:=omega) only [eq_false h,Int.reduceAdd,↓Xk,wD,↓X2,wA,seval,wE]
  exact Xt (v:=I a) rfl rfl (Xa _) (by rw [if_pos h])
 simp (disch:=omega) only [eq_true h,Int.reduceAdd,↓Xk,wD,↓X2,wA,seval,wE]
 refine EI ?_
 refine X1 1000 ?_
 by_cases h2:b=0
 rotate_left
 ·simp (disch:=omega) only [eq_false h2,Int.reduceAdd,↓Xk,wD,↓X2,wA,seval,wE]
  exact Xt (v:=I b) rfl rfl (Xa _) (by rw [if_neg (by simp [h])])
 simp (disch:=omega) only [eq_true h2,Int.reduceAdd,↓Xk,wD,↓X2,wA,seval,wE]
 refine EI ?_
 refine X1 1000 ?_
 simp (disch:=omega) only [Int.reduceAdd,↓Xk,wD,↓X2,wA,seval,wE]
 exact Xt (v:=I 0) rfl rfl (Xa _) (by rw [if_neg (by simp [h]),h2])
theorem OT (t u:V2) (ht:vb t≤vm) (hu:vb u≤vm):Fn Tryz.prog 135 [vA t,vA u] (I (SF t u)):=by
 have q1:=Qy t; have q2:=Qo t; have q3:=Qy u; have q4:=Qo u
 have c1:=Kd t.x u.x (by unfold rm; unfold vm at *; omega) (by unfold rm; unfold vm at *; omega)
 have c2:=Kd t.y u.y (by unfold rm; unfold vm at *; omega) (by unfold rm; unfold vm at *; omega)
 have c3:=rB (QO t.x u.x) (QO t.y u.y)
 have hc:SF t u=if QO t.x u.x≠0 then QO t.x u.x else QO t.y u.y:=rfl
 rw [← hc] at c3
 generalize SF t u=R at *
 refine Fq Tryz.call135 Tryz.func135 5 [] [1,20000002,20000003] [] (by simp [Xm]) (X1 1000 ?_)
 simp (disch:=omega) only [AS.start,vA,vC,↓Xk,wD,↓X2,wA,seval,wE]
 refine X0 c1 rfl ?_
 simp (disch:=omega) only [↓Xk,wD,↓X2,wA,seval,wE]
 refine X0 c2 rfl ?_
 simp (disch:=omega) only [↓Xk,wD,↓X2,wA,seval,wE]
 refine X0 c3 rfl ?_
 simp (disch:=omega) only [↓Xk,wD,↓X2,wA,seval,wE]
 exact Xt rfl rfl (Xa _) rfl
def YD (L:List V2) (j:Nat):List V2:=(L.set (j+1) (L.getD j v0)).set j (L.getD (j+1) v0)
def Bc:List V2→Nat→List V2
 | L,0=>L
 | L,j+1=>if ZO (L.getD (j+1) v0) (L.getD j v0) then Bc (YD L j) j else L
def Ak (L:List V2):Nat→List V2
 | 0=>L
 | k+1=>Bc (Ak L k) (k+1)
theorem NT (L:List V2) (j:Nat):(YD L j).length=L.length:=by simp [YD]
theorem Pa:∀ (j:Nat) (L:List V2),(Bc L j).length=L.length
 | 0,_=>rfl
 | j+1,L=>by
  unfold Bc
  split
  ·rw [Pa j,NT]
  ·rfl
theorem B7 (L:List V2):∀ k,(Ak L k).length=L.length
 | 0=>rfl
 | k+1=>by show (Bc (Ak L k) (k+1)).length=_; rw [Pa,B7 L k]
theorem V6 {L:List V2} {j:Nat} (h:j+1<L.length) (x:V2) (hx:x∈YD L j):x∈L:=by
 unfold YD at hx
 rcases List.mem_or_eq_of_mem_set hx with hx | rfl
 ·rcases List.mem_or_eq_of_mem_set hx with hx | rfl
  ·exact hx
  ·exact JI (by omega)
 ·exact JI h
theorem Pb:∀ (j:Nat) (L:List V2),j<L.length→∀ x∈Bc L j,x∈L
 | 0,_,_,x,h=>h
 | j+1,L,hj,x,h=>by
  unfold Bc at h
  split at h
  ·exact V6 hj x (Pb j (YD L j) (by rw [NT]; omega) x h)
  ·exact h
theorem IY (L:List V2):∀ k,k<L.length→∀ x∈Ak L k,x∈L
 | 0,_,x,h=>h
 | k+1,hk,x,h=>IY L k (by omega) x (Pb (k+1) (Ak L k) (by rw [B7]; exact hk) x h)
theorem qk (l:List V2) (k:Nat) (x:V2) (hk:k<l.length):Hc (Xs vC 8 v0 l) (k*8) (vC x)=Xs vC 8 v0 (l.set k x):=by
 funext j
 rw [Ry]
 have e:(l.set k x).getD k v0=x:=by rw [List.getD_eq_getElem?_getD,List.getElem?_set_self hk]; rfl
 have hl:(vC x).length=8:=rfl
 unfold Xs
 by_cases h:k*8≤j∧j<k*8+(vC x).length
 ·rw [if_pos h]
  rw [hl] at h
  rw [show j / 8=k by omega,e,show j % 8=j - k*8 by omega]
 ·rw [if_neg h]
  rw [hl] at h
  have:(l.set k x).getD (j / 8) v0=l.getD (j / 8) v0:=by rw [List.getD_eq_getElem?_getD,List.getElem?_set_ne (by omega),List.getD_eq_getElem?_getD]
  rw [this]
theorem nn {P:Program} {fn:Func} {str hcs:List Nat} {b:Nat} {H:List AO} {s:AS} (hr:fn.results=#[]) (hH:s.h=H):RetE (D0 P fn str hcs b (.tup []) H) s :=
 ⟨.tup [],by show KD P fn s=_; simp [KD,hr,QZ,Zy],rfl,hH⟩
theorem WG (o0 o1 o2 o3 o4 o5 o6 o7:AO) (v:Nat) (L:List V2) (hL:∀ x∈L,vb x≤vm) (hn:L.length<1000) :
  HCall Tryz.prog 233 [.osl 8 v 8 0 L.length,I 0,I L.length,.fn 135 []] [o0,o1,o2,o3,o4,o5,o6,o7,.row v (L.length*8) (Xs vC 8 v0 L)] (.tup []) [o0,o1,o2,o3,o4,o5,o6,o7,.row v (L.length*8) (Xs vC 8 v0 (Ak L (L.length - 1)))]:=by
 refine HCall.intro (fn:=Tryz.f233) Tryz.call233 Tryz.func233 rfl mixed 10 [] [4,5008,5013,6,7009,7013] [] (by kernel_rfl) (Nat.le_of_ble_eq_true rfl) (X1 1000 ?_)
 simp (disch:=omega) only [AS.start,↓Xk,wD,↓X2,wA,seval,wE]
 refine Xf (fun k:Nat=>⟨10,[],[.osl 8 v 8 0 L.length,I 0,I L.length,.fn 135 [],.any,.any,.any,.any,I (k+1:Nat),.any],[],[o0,o1,o2,o3,o4,o5,o6,o7,.row v (L.length*8) (Xs vC 8 v0 (Ak L k))]⟩) (fun k=>k≤L.length - 1) (fun k=>L.length - k) 0 (by omega)
  (Xb rfl (by simp [Xi,I]) (by simp [Xj]) rfl) ?_
 intro k hk next
 by_cases hk2:k+1<L.length
 rotate_left
 ·obtain rfl:k=L.length - 1:=by omega
  refine X1 1000 ?_
  simp (disch:=omega) only [↓Xk,wD,↓X2,wA,seval,wE]
  exact nn rfl rfl
 have hml:=IY L k (by omega)
 have hll:=B7 L k
 have nx:=next (k+1)
 rw [show Ak L (k+1)=Bc (Ak L k) (k+1) from rfl] at nx
 generalize Ak L k=M at *
 refine X1 1000 ?_
 simp (disch:=omega) only [↓Xk,wD,↓X2,wA,seval,wE]
 refine Xf (fun p:Nat×List V2=>⟨10,[],[.osl 8 v 8 0 L.length,I 0,I L.length,.fn 135 [],.any,.any,.any,.any,I (k+1:Nat),I p.1],[],[o0,o1,o2,o3,o4,o5,o6,o7,.row v (L.length*8) (Xs vC 8 v0 p.2)]⟩) (fun p=>p.1≤k+1∧p.2.length=L.length∧(∀ x∈p.2,vb x≤vm)∧Bc p.2 p.1=Bc M (k+1)) (fun p=>p.1) (k+1,M) ⟨by simp,hll,fun x hx=>hL x (hml x hx),rfl⟩
  (Xb rfl (by simp [Xi,I]) (by simp [Xj]) rfl) ?_
 rintro ⟨j,C⟩ ⟨h1,h2,h3,h4⟩ nextj
 replace h1:j≤k+1:=h1
 replace h2:C.length=L.length:=h2
 replace h3:∀ x∈C,vb x≤vm:=h3
 replace h4:Bc C j=Bc M (k+1):=h4
 match j,h1,h4,nextj with
 | 0,h1,h4,nextj =>
  refine X1 1000 ?_
  simp (disch:=omega) only [↓Xk,wD,↓X2,wA,seval,wE]
  have h5:C=Bc M (k+1):=h4
  rw [← h5] at nx
  exact nx _ (by omega) (by omega) (Xb rfl (by simp [Xi,I]) (by simp [Xj]) rfl)
 | j+1,h1,h4,nextj =>
  have c:=OT (C.getD (j+1) v0) (C.getD j v0) (h3 _ (JI (by omega))) (h3 _ (JI (by omega)))
  have a1:=JP vC 8 v0 C (j+1)
  have a2:=K6 vC 8 v0 C (j+1) (by omega)
  have b1:=JP vC 8 v0 C j
  have b2:=K6 vC 8 v0 C j (by omega)
  have hj1:(((j+1:Nat):Int) - 1).toNat=j:=by omega
  have hneg:=cM (C.getD (j+1) v0) (C.getD j v0)
  by_cases hb:ZO (C.getD (j+1) v0) (C.getD j v0)
  rotate_left
  ·have hlt:=mt hneg.1 hb
   have h5:C=Bc M (k+1):=by rw [← h4]; unfold Bc; rw [if_neg hb]
   rw [← h5] at nx
   clear h4 h5 hb hneg nextj
   generalize C.getD (j+1) v0=x at *
   generalize C.getD j v0=y at *
   generalize SF x y=d at *
   refine X1 1000 ?_
   simp (disch:=omega) only [hj1,a1,a2,b1,b2,vC,↓Xk,wD,↓X2,wA,seval,wE]
   refine X0 c rfl ?_
   simp (disch:=omega) only [eq_false hlt,↓Xk,wD,↓X2,wA,seval,wE]
   exact nx _ (by omega) (by omega) (Xb rfl (by simp [Xi,I]) (by simp [Xj]) rfl)
  have hlt:=hneg.2 hb
  have e1:=qk C (j+1) (C.getD j v0) (by omega)
  have e2:=qk (C.set (j+1) (C.getD j v0)) j (C.getD (j+1) v0) (by rw [List.length_set]; omega)
  have hsw:(C.set (j+1) (C.getD j v0)).set j (C.getD (j+1) v0)=YD C j:=rfl
  rw [hsw,← e1] at e2
  have h5:Bc (YD C j) j=Bc M (k+1):=by rw [← h4]; exact (if_pos hb).symm
  have nx2:=nextj (j,YD C j)
  have h6:∀ x∈YD C j,vb x≤vm:=fun x hx=>h3 x (V6 (by omega) x hx)
  have h7:=NT C j
  generalize YD C j=D at *
  clear h4 hb hneg nextj hsw e1
  generalize C.getD (j+1) v0=x at *
  generalize C.getD j v0=y at *
  generalize SF x y=d at *
  refine X1 1000 ?_
  simp (disch:=omega) only [hj1,a1,a2,b1,b2,vC,↓Xk,wD,↓X2,wA,seval,wE]
  refine X0 c rfl ?_
  simp (disch:=omega) only [hj1,a1,a2,b1,b2,vC,eq_true hlt,↓Xk,wD,↓X2,wA,seval,wE]
  exact nx2 _ ⟨by show j≤k+1; omega,by show D.length=_; omega,h6,h5⟩ (by show j<j+1; omega) (Xb rfl (by simp [Xi,I]) (by simp [Xj]) (by rw [← e2]; rfl))
end
end Go.Ab.N
namespace Go.Ab.N
open Go Go.RowKit Go.Proofs
open Go.Shelf
noncomputable section
set_option maxRecDepth 10000
set_option maxHeartbeats 4000000
open Classical
def td:Go.Shelf.Ren:=⟨fun k=>if k=125 then 199 else if k=128 then 241 else 242,fun t=>if t=46 then 187 else if t=51 then 218 else if t=53 then 197 else t,fun x=>x⟩
theorem rp:Lays.n125 Tryz.prog td where
 mixed:=mixed
 f125:=Tryz.func199.trans (congrArg some rfl)
 f128:=Tryz.func241.trans (congrArg some rfl)
 f129:=Tryz.func242.trans (congrArg some rfl)
 t3:=Tryz.underlying3
 a3:=Tryz.isAgg3
 z3:=Tryz.sizeOf3
 v3:=Tryz.zeroValue3
 t4:=Tryz.underlying4
 a4:=Tryz.isAgg4
 z4:=Tryz.sizeOf4
 v4:=Tryz.zeroValue4
 t5:=Tryz.underlying5
 a5:=Tryz.isAgg5
 z5:=Tryz.sizeOf5
 v5:=Tryz.zeroValue5
 t9:=Tryz.underlying9
 a9:=Tryz.isAgg9
 z9:=Tryz.sizeOf9
 v9:=Tryz.zeroValue9
 t46:=Tryz.underlying187
 a46:=Tryz.isAgg187
 z46:=Tryz.sizeOf187
 v46:=Tryz.zeroValue187
 t51:=Tryz.underlying218
 a51:=Tryz.isAgg218
 z51:=Tryz.sizeOf218
 v51:=Tryz.zeroValue218
 t53:=Tryz.underlying197
 a53:=Tryz.isAgg197
 z53:=Tryz.sizeOf197
 v53:=Tryz.zeroValue197
theorem pi (n:Nat) (h:n<1000000):Fn Tryz.prog 199 [.int .u64 n] (I (Lib.bitLen n)):=by
 refine ⟨⟨Tryz.call199,?_⟩,fun a ha=>by rw [List.mem_singleton.1 ha]; exact Jh _ _⟩
 rintro w S vs hS ⟨hv1,hv2⟩
 have hx:=hv2 0 (by simp)
 have h3:vs.size=1:=hv1
 have e1:vs=#[vs.getD 0 undef]:=by
  apply Array.ext
  ·simp [h3]
  ·intro j g1 g2
   match j,g1 with
   | 0,_=>simp [Array.getD,h3]
   | j+1,g=>omega
 rw [e1]
 generalize vs.getD 0 undef=x at *
 replace hx:Rep (.bare w S) x (.int .u64 n):=hx
 cases hx
 have key:=Any.bits_Len rp (n:Int) w (by omega) (by omega)
 refine key.mono ?_
 rintro e w' ⟨rfl,rfl⟩
 rw [Int.toNat_natCast]
 exact ⟨_,S,rfl,.int _ _,hS,Ext.refl _⟩
theorem pM {P:Program} {fn:Func} {str hcs:List Nat} {b:Nat} {H:List AO} {s:AS} (hr:fn.results=#[]) (hH:s.h=H):RetOk (D0 P fn str hcs b (.tup []) H) s :=
 ⟨.tup [],by show KD P fn s=_; simp [KD,hr,QZ,Zy],rfl,hH⟩
theorem rO {o0 o1 o2 o3 o4 o5 o6 o7 o8:AO} (h:∀ o∈[o0,o1,o2,o3,o4,o5,o6,o7],o≠.unborn) (h5:o8≠.unborn) (id:Nat):[o0,o1,o2,o3,o4,o5,o6,o7,o8][id]?≠some .unborn:=by
 intro hh
 have:=List.mem_of_getElem? hh
 rw [show [o0,o1,o2,o3,o4,o5,o6,o7,o8]=[o0,o1,o2,o3,o4,o5,o6,o7] ++ [o8] from rfl,List.mem_append,List.mem_singleton] at this
 rcases this with g | g
 ·exact h _ g rfl
 ·exact h5 g.symm
theorem pC (o0 o1 o2 o3 o4 o5 o6 o7:AO) (hu:∀ o∈[o0,o1,o2,o3,o4,o5,o6,o7],o≠.unborn) (v lim:Nat) (L:List V2) (hL:∀ x∈L,vb x≤vm) (hn:L.length≤12) :
  HCall Tryz.prog 198 [.osl 8 v 8 0 L.length,I 0,I L.length,I lim,.fn 135 []] [o0,o1,o2,o3,o4,o5,o6,o7,.row v (L.length*8) (Xs vC 8 v0 L)] (.tup []) [o0,o1,o2,o3,o4,o5,o6,o7,.row v (L.length*8) (Xs vC 8 v0 (Ak L (L.length - 1)))]:=by
 have c:=WG o0 o1 o2 o3 o4 o5 o6 o7 v L hL (by omega)
 refine HCall.intro (fn:=Tryz.f198) Tryz.call198 Tryz.func198 rfl mixed 21 [] [] [4] (by kernel_rfl) (Nat.le_of_ble_eq_true rfl) (X1 1000 ?_)
 simp (disch:=omega) only [AS.start,↓Xk,wD,↓X2,wA,seval,wE]
 refine Gn ?_
 refine X1 1000 ?_
 simp (disch:=omega) only [↓Xk,wD,↓X2,wA,seval,wE]
 refine Ko rfl c (KK (id:=8) (o:=.row v (L.length*8) (Xs vC 8 v0 L)) rfl (by simp) (by simp)) (rO hu (by simp)) (XY _) ?_
 simp (disch:=omega) only [↓Xk,wD,↓X2,wA,seval,wE]
 exact pM rfl rfl
theorem lS (o0 o1 o2 o3 o4 o5 o6 o7:AO) (hu:∀ o∈[o0,o1,o2,o3,o4,o5,o6,o7],o≠.unborn) (v:Nat) (L:List V2) (hL:∀ x∈L,vb x≤vm) (hn:L.length≤12) :
  HCall Tryz.prog 134 [.osl 8 v 8 0 L.length,.fn 135 []] [o0,o1,o2,o3,o4,o5,o6,o7,.row v (L.length*8) (Xs vC 8 v0 L)] (.tup []) [o0,o1,o2,o3,o4,o5,o6,o7,.row v (L.length*8) (Xs vC 8 v0 (Ak L (L.length - 1)))]:=by
 have c:=pC o0 o1 o2 o3 o4 o5 o6 o7 hu v (Lib.bitLen L.length) L hL hn
 have cl:=pi L.length (by omega)
 have hw:IntKind.u64.wrap (L.length:Int)=L.length:=by rw [IntKind.wrap_u64]; omega
 generalize Lib.bitLen L.length=lim at *
 refine HCall.intro (fn:=Tryz.f134) Tryz.call134 Tryz.func134 rfl mixed 5 [] [] [1] (by kernel_rfl) (Nat.le_of_ble_eq_true rfl) (X1 1000 ?_)
 simp (disch:=omega) only [AS.start,hw,↓Xk,wD,↓X2,wA,seval,wE]
 refine X0 cl rfl ?_
 simp (disch:=omega) only [↓Xk,wD,↓X2,wA,seval,wE]
 refine Ko rfl c (KK (id:=8) (o:=.row v (L.length*8) (Xs vC 8 v0 L)) rfl (by simp) (by simp)) (rO hu (by simp)) (XY _) ?_
 simp (disch:=omega) only [↓Xk,wD,↓X2,wA,seval,wE]
 exact nn rfl rfl
end
end Go.Ab.N
namespace Go.Ab.N
open Go Go.RowKit Go.Proofs
noncomputable section
set_option maxRecDepth 10000
set_option maxHeartbeats 4000000
open Classical
theorem IK {P:Program} {fn:Func} {str hcs:List Nat} {b:Nat} {r:AV} {H:List AO} {s:AS} {t:Nat} (hr:fn.results=#[.tmp t]) (h1:s.get t=r) (hH:s.h=H):RetOk (D0 P fn str hcs b r H) s :=
 ⟨r,by show KD P fn s=_; simp [KD,hr,QZ,QR,Zy,h1],rfl,hH⟩
theorem On (o0 o1 o2 o3 o4:AO) (B0:∀ m,5≤m→XQ m o0) (B1:∀ m,5≤m→XQ m o1) (B2:∀ m,5≤m→XQ m o2) (B3:∀ m,5≤m→XQ m o3) (B4:∀ m,5≤m→XQ m o4) (a b:PV) (f:FV) (hf:BF a.rim.length b.rim.length f) (ha:a.even) (hb:b.even) :
  HCall Tryz.prog 133 [Jg a,Jg b,KP f] [o0,o1,o2,o3,o4] (.osl 8 (Qh a b f f.M.toNat).length 8 0 (Qh a b f f.M.toNat).length) [o0,o1,o2,o3,o4,.dead,.dead,.dead,.row (Qh a b f f.M.toNat).length ((Qh a b f f.M.toNat).length*8) (Xs vC 8 v0 (Qh a b f f.M.toNat))]:=by
 have ce:=F3 a b f hf ha.rim hb.rim
 obtain ⟨⟨s1,s2⟩,⟨s3,s4⟩,s5,s6,s7⟩:=hf
 obtain ⟨N,hN⟩:∃ N:Nat,f.M=N:=⟨f.M.toNat,by omega⟩
 have la:=ha.rim; have lb:=hb.rim
 have hNt:f.M.toNat=N:=by rw [hN]; rfl
 rw [hNt]
 obtain ⟨L,hL⟩:∃ L,L=CZ a.rim.length b.rim.length f:=⟨_,rfl⟩
 have hlen:L.length=N:=by rw [hL,AG,hN]; rfl
 have hat:∀ k,k<N→L.getD k (0,0)=((xK a.rim.length f k:Int),(yK b.rim.length f k:Int)):=fun k hk=>by rw [hL]; exact DL _ _ _ _ (by omega)
 rw [← hL] at ce
 clear hL
 have ba:XQ 9 (.row 0 25 (Xo (XO a)))=True:=eq_true (XE (XG a))
 have bb:XQ 9 (.row 0 25 (Xo (XO b)))=True:=eq_true (XE (XG b))
 have bf:XQ 9 (.row 0 29 (Xo (Qa f)))=True:=eq_true (XE (Qd f))
 have bL:Kl 9 (CO L)=True:=eq_true (X8 (Qt _))
 have hvc:∀ a:V2,∀ x∈vC a,Settled x:=fun a=>by simp [vC,X5,X3]
 have br:∀ i l n,XQ 9 (.row i n (Xs vC 8 v0 l))=True:=fun i l n=>eq_true fun j _=>X8 (Xg (hvc _) _)
 have q0:XQ 9 o0=True:=eq_true (B0 9 (by omega))
 have q1:XQ 9 o1=True:=eq_true (B1 9 (by omega))
 have q2:XQ 9 o2=True:=eq_true (B2 9 (by omega))
 have q3:XQ 9 o3=True:=eq_true (B3 9 (by omega))
 have q4:XQ 9 o4=True:=eq_true (B4 9 (by omega))
 refine HCall.intro (fn:=Tryz.f133) Tryz.call133 Tryz.func133 rfl mixed 12 [15,16,17] [] [] (by kernel_rfl) (Nat.le_of_ble_eq_true rfl) (X1 1000 ?_)
 simp only [AS.start,Jg,XO,KP,Qa,↓X2,wA,seval,wE]
 refine X0 ce rfl ?_
 simp only [Xh,hlen,↓X2,wA,seval,wE]
 refine Xf (fun k:Nat=>⟨12,[15,16,17],[.any,.any,.any,.ref 5 0 0,.ref 6 0 0,.ref 7 0 0,.any,.osl 8 (Qh a b f k).length 8 0 (Qh a b f k).length,.any,.any,.any,.any],[(15,CO L),(16,I N),(17,I k)],[o0,o1,o2,o3,o4,.row 0 25 (Xo (XO a)),.row 0 25 (Xo (XO b)),.row 0 29 (Xo (Qa f)),.row (Qh a b f k).length ((Qh a b f k).length*8) (Xs vC 8 v0 (Qh a b f k))]⟩) (fun k=>k≤N) (fun k=>N - k) 0 (by omega)
  (Sub.trans (QT 7 8 (Xs vC 8 v0 []) rfl) (Xb rfl (by simp [AS.put,Qh,Xi,I]) (by simp [AS.put,Xj,Xp,Xh,hlen,I]) (by simp [AS.put,Qh,XO,Qa,Xh,Xr,X4,I]))) ?_
 intro k hk next
 have w1:=wj k (by omega)
 have hln:=CS a b f k
 by_cases hk2:k<N
 rotate_left
 ·obtain rfl:k=N:=by omega
  refine Run.sub (s':=⟨12,[15,16,17],[.any,.any,.any,.any,.any,.any,.any,.osl 8 (Qh a b f k).length 8 0 (Qh a b f k).length,.any,.any,.any,.any],[(15,CO L),(16,I k),(17,I k)],[o0,o1,o2,o3,o4,.dead,.dead,.dead,.row (Qh a b f k).length ((Qh a b f k).length*8) (Xs vC 8 v0 (Qh a b f k))]⟩) ?_
   (Sub.trans (C7 5 rfl (by simp [AO.info])) (Sub.trans (C7 6 rfl (by simp [AO.info])) (Sub.trans (C7 7 rfl (by simp [AO.info])) (Xb rfl (by simp [Xi,I]) (by simp [Xj,Xp,I]) (by simp)))))
  refine X1 1000 ?_
  simp only [Int.lt_irrefl,Nat.lt_irrefl,↓X2,wA,seval,wE]
  exact IK rfl rfl rfl
 have nx:=next (k+1)
 have f1:((k:Int)<N)=True:=eq_true (by omega)
 have f2:(k<N)=True:=eq_true hk2
 have f3:(k*2+2≤N*2)=True:=eq_true (by omega)
 have v1:=ls L k
 rw [hat k hk2] at v1
 have n2:((2:Nat):Int)=2:=rfl
 have t1:(1:Int).toNat=1:=rfl
 have ca:=AM a b (xK a.rim.length f k) (yK b.rim.length f k) la lb ha.near hb.near
 rw [show XU a.rim b.rim (xK a.rim.length f k) (yK b.rim.length f k)=Lf a b f k from rfl] at ca
 have hs:Qh a b f (k+1)=if (Lf a b f k).2=true then Qh a b f k ++ [(Lf a b f k).1] else Qh a b f k:=rfl
 generalize Lf a b f k=X at *
 obtain ⟨t,ok⟩:=X
 refine X1 1000 ?_
 simp only [XO,Qa,Xh,Xr,X4,hlen,w1,f1,f2,f3,v1,n2,t1,Int.toNat_zero,Int.reduceLT,Int.reduceLE,Int.toNat_natCast,↓X2,wA,seval,wE]
 refine X0 ca rfl ?_
 cases ok with
 | false =>
  rw [if_neg (show ¬ ((t,false).2=true) from Bool.false_ne_true)] at hs
  simp only [hs] at nx
  simp only [w1,↓X2,wA,seval,wE]
  exact nx _ (by omega) (by omega) (Xz (m:=9) (show 5≤9 by omega) rfl (by simp [Xi,I]) (by simp [Xj,Xp,Xh,hlen,I]) (by simp [XO,Qa,Xh,Xr,X4,I]) (by simp [XA]) (by simp [XA,bL]) (by simp [q0,q1,q2,q3,q4,ba,bb,bf,br]))
 | true =>
  rw [if_pos rfl] at hs
  have hlen2:(Qh a b f (k+1)).length=(Qh a b f k).length+1:=by rw [hs]; simp
  have hap:=Qv vC 8 v0 (Qh a b f k) t (by omega)
  rw [← hs] at hap
  simp only [hlen2] at nx
  simp only [w1,↓X2,wA,seval,wE]
  exact ⟨⟨EM t,by omega,by omega⟩,nx _ (by omega) (by omega) (Xz (m:=9) (show 5≤9 by omega) rfl (by simp [Xi,I]) (by simp [Xj,Xp,Xh,hlen,I]) (by rw [← hap]; simp [XO,Qa,Xh,Xr,X4,I,vC]) (by simp [XA]) (by simp [XA,bL]) (by simp [q0,q1,q2,q3,q4,ba,bb,bf,br]))⟩
theorem BN {a b c:V2} (h1:ZO a b) (h2:ZO b c):ZO a c:=by unfold ZO at *; grind
theorem Hg (a:V2):¬ ZO a a:=by unfold ZO; grind
theorem G3 {a b:V2} (h:¬ ZO a b) (hn:a≠b):ZO b a:=by
 have:¬ (a.x=b.x∧a.y=b.y):=fun hh=>hn (V2.ext'.2 hh)
 unfold ZO at *
 grind
theorem Pd (t:V2):∀ l,l.Pairwise ZO→t∉l→(Lz t l).Pairwise ZO
 | [],_,_=>by simp [Lz]
 | x :: l,hs,hn=>by
  rw [List.pairwise_cons] at hs
  rw [List.mem_cons,not_or] at hn
  have ih:=Pd t l hs.2 hn.2
  unfold Lz
  split
  ·rename_i hb
   rw [List.pairwise_cons,List.pairwise_cons]
   refine ⟨fun y hy=>?_,hs⟩
   rcases List.mem_cons.1 hy with rfl | hy
   ·exact hb
   ·exact BN hb (hs.1 y hy)
  ·rename_i hb
   rw [List.pairwise_cons]
   refine ⟨fun y hy=>?_,ih⟩
   rcases (Im t y l).1 hy with rfl | hy
   ·exact G3 hb hn.1
   ·exact hs.1 y hy
theorem L8 (a b:PV) (f:FV):∀ n,(KH a b f n).Pairwise ZO
 | 0=>List.Pairwise.nil
 | n+1=>by
  have ih:=L8 a b f n
  unfold KH
  split
  ·unfold aQ
   split
   ·exact ih
   ·rename_i h
    exact Pd _ _ ih h
  ·exact ih
theorem V1:∀ (l m:List V2),l.Pairwise ZO→m.Pairwise ZO→(∀ x,x∈l↔x∈m)→l=m
 | [],[],_,_,_=>rfl
 | [],b :: m,_,_,h=>absurd ((h b).2 (List.mem_cons_self ..)) (List.not_mem_nil)
 | a :: l,[],_,_,h=>absurd ((h a).1 (List.mem_cons_self ..)) (List.not_mem_nil)
 | a :: l,b :: m,h1,h2,h=>by
  rw [List.pairwise_cons] at h1 h2
  have e:a=b:=by
   rcases List.mem_cons.1 ((h a).1 (List.mem_cons_self ..)) with e | ha
   ·exact e
   rcases List.mem_cons.1 ((h b).2 (List.mem_cons_self ..)) with e | hb
   ·exact e.symm
   ·exact absurd (BN (h1.1 b hb) (h2.1 a ha)) (Hg a)
  subst e
  refine congrArg (a :: ·) (V1 l m h1.2 h2.2 fun x=>⟨fun hx=>?_,fun hx=>?_⟩)
  ·rcases List.mem_cons.1 ((h x).1 (List.mem_cons_of_mem _ hx)) with rfl | hy
   ·exact absurd (h1.1 x hx) (Hg x)
   ·exact hy
  ·rcases List.mem_cons.1 ((h x).2 (List.mem_cons_of_mem _ hx)) with rfl | hy
   ·exact absurd (h2.1 x hx) (Hg x)
   ·exact hy
def H6 (x:V2):List V2→List V2
 | []=>[x]
 | y :: Q=>if ZO x y then y :: H6 x Q else x :: y :: Q
theorem In (x z:V2):∀ Q,z∈H6 x Q↔z=x∨z∈Q
 | []=>by simp [H6]
 | y :: Q=>by
  have ih:=In x z Q
  unfold H6
  split
  ·rw [List.mem_cons,ih,List.mem_cons]
   constructor
   ·rintro (h | h | h)
    ·exact .inr (.inl h)
    ·exact .inl h
    ·exact .inr (.inr h)
   ·rintro (h | h | h)
    ·exact .inr (.inl h)
    ·exact .inl h
    ·exact .inr (.inr h)
  ·simp
theorem Pf (x:V2):∀ Q,(H6 x Q).length=Q.length+1
 | []=>rfl
 | y :: Q=>by
  have ih:=Pf x Q
  unfold H6
  split
  ·simp [ih]
  ·simp
def mO (Q:List V2):Prop:=Q.Pairwise fun a b=>¬ ZO a b
theorem Pe (x:V2):∀ Q,mO Q→mO (H6 x Q)
 | [],_=>by simp [mO,H6]
 | y :: Q,h=>by
  have h':=h
  unfold mO at h'
  rw [List.pairwise_cons] at h'
  have ih:=Pe x Q h'.2
  unfold H6
  split
  ·rename_i hb
   unfold mO
   rw [List.pairwise_cons]
   refine ⟨fun z hz=>?_,ih⟩
   rcases (In x z Q).1 hz with rfl | hz
   ·exact fun hh=>Hg _ (BN hb hh)
   ·exact h'.1 z hz
  ·rename_i hb
   unfold mO
   rw [List.pairwise_cons]
   refine ⟨fun z hz=>?_,h⟩
   rcases List.mem_cons.1 hz with rfl | hz2
   ·exact hb
   ·intro hh
    have h5:=h'.1 z hz2
    by_cases e:x=y
    ·rw [e] at hh; exact h5 hh
    ·exact h5 (BN (G3 hb e) hh)
theorem P2 (A R:List V2) (x:V2):(A ++ x :: R).getD A.length v0=x:=by
 rw [List.getD_eq_getElem?_getD,List.getElem?_append_right (Nat.le_refl _),Nat.sub_self]; rfl
theorem M8 (A R:List V2) (x y:V2):(A ++ y :: x :: R).getD (A.length+1) v0=x:=by
 rw [List.getD_eq_getElem?_getD,List.getElem?_append_right (by omega),Nat.add_sub_cancel_left]; rfl
theorem lX (A R:List V2) (x y:V2):YD (A ++ y :: x :: R) A.length=A ++ x :: y :: R:=by
 unfold YD
 rw [P2,M8,List.set_append_right _ _ (by omega),Nat.add_sub_cancel_left,List.set_append_right _ _ (Nat.le_refl _),Nat.sub_self]; rfl
theorem Il (x:V2):∀ (Q R:List V2),Bc (Q.reverse ++ x :: R) Q.length=(H6 x Q).reverse ++ R
 | [],R=>rfl
 | y :: Q,R=>by
  have ih:=Il x Q (y :: R)
  have hl:Q.reverse.length=Q.length:=List.length_reverse
  have e:(y :: Q).reverse ++ x :: R=Q.reverse ++ y :: x :: R:=by simp
  rw [e]
  show Bc (Q.reverse ++ y :: x :: R) (Q.length+1)=_
  unfold Bc H6
  rw [← hl,M8,P2,lX,hl,ih]
  split
  ·simp
  ·simp
theorem IZ (L:List V2):∀ k,k<L.length→∃ Q R,Ak L k=Q.reverse ++ R∧Q.length=k+1∧mO Q∧∀ x,x∈Ak L k↔x∈L
 | 0,h=>by
  match L,h with
  | x :: R,_=>exact ⟨[x],R,rfl,rfl,by simp [mO],fun _=>Iff.rfl⟩
 | k+1,h=>by
  obtain ⟨Q,R,h1,h2,h3,h4⟩:=IZ L k (by omega)
  have hl:=B7 L k
  match R,h1 with
  | [],h1=>rw [h1] at hl; simp at hl; omega
  | x :: R,h1 =>
   refine ⟨H6 x Q,R,?_,by rw [Pf,h2],Pe x Q h3,fun z=>?_⟩
   ·show Bc (Ak L k) (k+1)=_
    rw [h1,← h2]; exact Il x Q R
   ·rw [← h4 z]
    show z∈Bc (Ak L k) (k+1)↔_
    rw [h1,← h2,Il x Q R]
    simp only [List.mem_append,List.mem_reverse,List.mem_cons,In]
    constructor
    ·rintro ((h | h) | h)
     ·exact .inr (.inl h)
     ·exact .inl h
     ·exact .inr (.inr h)
    ·rintro (h | h | h)
     ·exact .inl (.inr h)
     ·exact .inl (.inl h)
     ·exact .inr h
def An (L:List V2):Nat→List V2
 | 0=>L.take 1
 | k+1=>if L.getD (k+1) v0=L.getD k v0 then An L k else An L k ++ [L.getD (k+1) v0]
theorem U8 (L:List V2):∀ k,(An L k).length≤k+1
 | 0=>by simp [An]; omega
 | k+1=>by
  have ih:=U8 L k
  unfold An
  split
  ·omega
  ·simp; omega
theorem cK (L:List V2) (hs:L.Pairwise fun a b=>¬ ZO b a):∀ k,k<L.length→(An L k).Pairwise ZO∧(∀ x,x∈An L k↔x∈L.take (k+1))∧∀ y∈An L k,y=L.getD k v0∨ZO y (L.getD k v0)
 | 0,h=>by
  match L,h with
  | x :: R,_=>exact ⟨by simp [An],fun _=>by simp [An],fun y hy=>.inl (by simpa [An] using hy)⟩
 | k+1,h=>by
  obtain ⟨h1,h2,h3⟩:=cK L hs k (by omega)
  have ht:=QJ L v0 (k+1) h
  by_cases e:L.getD (k+1) v0=L.getD k v0
  ·have ec:An L (k+1)=An L k:=if_pos e
   rw [ec]
   refine ⟨h1,fun x=>?_,fun y hy=>by rw [e]; exact h3 y hy⟩
   rw [h2 x,ht,List.mem_append,List.mem_singleton]
   refine ⟨fun hx=>.inl hx,fun hx=>?_⟩
   rcases hx with hx | rfl
   ·exact hx
   ·rw [e,QJ L v0 k (by omega)]
    simp
  ·have ec:An L (k+1)=An L k ++ [L.getD (k+1) v0]:=if_neg e
   have hb:ZO (L.getD k v0) (L.getD (k+1) v0):=by
    refine G3 (fun hh=>?_) e
    have:=(List.pairwise_iff_getElem.1 hs) k (k+1) (by omega) h (by omega)
    rw [List.getD_eq_getElem?_getD,List.getD_eq_getElem?_getD,List.getElem?_eq_getElem h,List.getElem?_eq_getElem (show k<L.length by omega)] at hh
    exact this hh
   have hall:∀ y∈An L k,ZO y (L.getD (k+1) v0):=fun y hy=>by
    rcases h3 y hy with rfl | g
    ·exact hb
    ·exact BN g hb
   rw [ec]
   refine ⟨?_,fun x=>?_,fun y hy=>?_⟩
   ·rw [List.pairwise_append]
    exact ⟨h1,List.pairwise_singleton _ _,fun y hy z hz=>by rw [List.mem_singleton.1 hz]; exact hall y hy⟩
   ·rw [List.mem_append,h2 x,ht,List.mem_append]
   ·rcases List.mem_append.1 hy with hy | hy
    ·exact .inr (hall y hy)
    ·exact .inl (List.mem_singleton.1 hy)
theorem Ol (a b:PV) (f:FV) (t:V2) (n:Nat):t∈Qh a b f n↔∃ k,k<n∧(Lf a b f k).2=true∧(Lf a b f k).1=t:=by
 rw [← HM,List.any_eq_true]
 constructor
 ·intro h; exact ⟨t,h,by simp⟩
 ·rintro ⟨x,hx,e⟩
  rw [of_decide_eq_true e] at hx
  exact hx
theorem VO (a b:PV) (f:FV) (n:Nat) (h:0<(Qh a b f n).length):An (Ak (Qh a b f n) ((Qh a b f n).length - 1)) ((Qh a b f n).length - 1)=KH a b f n:=by
 obtain ⟨Q,R,h1,h2,h3,h4⟩:=IZ (Qh a b f n) ((Qh a b f n).length - 1) (by omega)
 have hl:=B7 (Qh a b f n) ((Qh a b f n).length - 1)
 have hR:R=[]:=by
  rw [h1] at hl
  rw [List.length_append,List.length_reverse,h2] at hl
  exact List.eq_nil_of_length_eq_zero (by omega)
 subst hR
 rw [List.append_nil] at h1
 have hs:(Ak (Qh a b f n) ((Qh a b f n).length - 1)).Pairwise fun a b=>¬ ZO b a:=by
  rw [h1,List.pairwise_reverse]; exact h3
 obtain ⟨c1,c2,_⟩:=cK _ hs ((Qh a b f n).length - 1) (by omega)
 refine V1 _ _ c1 (L8 a b f n) fun x=>?_
 rw [c2 x,List.take_of_length_le (by omega),h4 x,Ol,A2]
theorem mH:Vl Tryz.prog 148=true:=by kernel_rfl
theorem I0 (L:List V2):∀ k,k<L.length→(∀ j,j<k→L.getD (j+1) v0≠L.getD j v0)→An L k=L.take (k+1)
 | 0,h,_=>rfl
 | k+1,h,hn=>by
  unfold An
  rw [if_neg (hn k (by omega)),I0 L k (by omega) (fun j hj=>hn j (by omega)),← QJ L v0 (k+1) h]
theorem cL (L:List V2) (k:Nat):An L (k+1)=if L.getD (k+1) v0=L.getD k v0 then An L k else An L k ++ [L.getD (k+1) v0]:=rfl
theorem NU (C D:List V2) (x:V2) (h:D.length<C.length) (ht:C.take D.length=D):(C.set D.length x).take (D.length+1)=D ++ [x]:=by
 rw [QJ _ v0 _ (by rw [List.length_set]; exact h),List.take_set_of_le (Nat.le_refl _),ht,List.getD_eq_getElem?_getD,List.getElem?_set_self h]; rfl
theorem SH (o0 o1 o2 o3 o4 o5 o6 o7:AO) (v:Nat) (L:List V2) (hL:∀ x∈L,vb x≤vm) (hn:L.length<1000) :
  HCall Tryz.prog 136 [.osl 8 v 8 0 L.length,.fn 67 []] [o0,o1,o2,o3,o4,o5,o6,o7,.row v (L.length*8) (Xs vC 8 v0 L)]
   (.osl 8 v 8 0 (An L (L.length - 1)).length) [o0,o1,o2,o3,o4,o5,o6,o7,.row v ((An L (L.length - 1)).length*8) (Xs vC 8 v0 (An L (L.length - 1)))]:=by
 have hat:∀ i,i<L.length→vb (L.getD i v0)≤vm:=fun i hi=>hL _ (JI hi)
 refine HCall.intro (fn:=Tryz.f136) Tryz.call136 Tryz.func136 rfl mixed 8 [] [6,7004,7009,11,12004,12009] [] (by kernel_rfl) (Nat.le_of_ble_eq_true rfl) (X1 1000 ?_)
 by_cases h2:2≤L.length
 rotate_left
 ·have e:An L (L.length - 1)=L:=by rw [show L.length - 1=0 by omega]; show L.take 1=L; exact List.take_of_length_le (by omega)
  rw [e]
  simp (disch:=omega) only [AS.start,↓Xk,wD,↓X2,wA,seval,wE]
  exact IK rfl rfl rfl
 simp (disch:=omega) only [AS.start,↓Xk,wD,↓X2,wA,seval,wE]
 refine Xf (fun k:Nat=>⟨8,[],[.osl 8 v 8 0 L.length,.fn 67 [],.any,.any,.any,I (k+1:Nat),.any,.any],[],[o0,o1,o2,o3,o4,o5,o6,o7,.row v (L.length*8) (Xs vC 8 v0 L)]⟩) (fun k=>k+1≤L.length∧∀ j,j<k→L.getD (j+1) v0≠L.getD j v0) (fun k=>L.length - k) 0 ⟨by omega,by omega⟩
  (Xb rfl (by simp [Xi,I]) (by simp [Xj]) rfl) ?_
 rintro k ⟨hk,hne⟩ next
 by_cases hk2:k+1<L.length
 rotate_left
 ·have e:An L (L.length - 1)=L:=by
   rw [I0 L (L.length - 1) (by omega) (fun j hj=>hne j (by omega))]; exact List.take_of_length_le (by omega)
  rw [e]
  refine X1 1000 ?_
  simp (disch:=omega) only [↓Xk,wD,↓X2,wA,seval,wE]
  exact IK rfl rfl rfl
 have c:=Bl (L.getD (k+1) v0) (L.getD k v0) (hat _ hk2) (hat _ (by omega))
 have a1:=JP vC 8 v0 L (k+1)
 have a2:=K6 vC 8 v0 L (k+1) (by omega)
 have b1:=JP vC 8 v0 L k
 have b2:=K6 vC 8 v0 L k (by omega)
 have hj1:(((k+1:Nat):Int) - 1).toNat=k:=by omega
 by_cases he:L.getD (k+1) v0=L.getD k v0
 rotate_left
 ·have nx:=next (k+1)
  rw [decide_eq_false he] at c
  have hne2:∀ j,j<k+1→L.getD (j+1) v0≠L.getD j v0:=fun j hj=>by
   by_cases e:j=k
   ·rw [e]; exact he
   ·exact hne j (by omega)
  generalize L.getD (k+1) v0=x at *
  generalize L.getD k v0=y at *
  refine X1 1000 ?_
  simp (disch:=omega) only [hj1,a1,a2,b1,b2,vC,↓Xk,wD,↓X2,wA,seval,wE]
  refine X0 c rfl ?_
  simp (disch:=omega) only [↓Xk,wD,↓X2,wA,seval,wE]
  exact nx _ ⟨by omega,hne2⟩ (by omega) (Xb rfl (by simp [Xi,I]) (by simp [Xj]) rfl)
 rw [decide_eq_true he] at c
 have hcm:An L k=L.take (k+1):=I0 L k (by omega) hne
 have hcm2:An L (k+1)=L.take (k+1):=by rw [cL,if_pos he,hcm]
 clear next he
 refine X1 1000 ?_
 generalize hx:L.getD (k+1) v0=x at a1 a2 c
 generalize hy:L.getD k v0=y at b1 b2 c
 simp (disch:=omega) only [hj1,a1,a2,b1,b2,vC,↓Xk,wD,↓X2,wA,seval,wE]
 refine X0 c rfl ?_
 simp (disch:=omega) only [↓Xk,wD,↓X2,wA,seval,wE]
 refine Xf (fun p:Nat×List V2=>⟨8,[],[.osl 8 v 8 0 L.length,.fn 67 [],.any,.any,.any,I (An L (k+1+p.1)).length,.osl 8 v 8 ((k+1)*8) (L.length - (k+1)),I (p.1+1:Nat)],[],[o0,o1,o2,o3,o4,o5,o6,o7,.row v (L.length*8) (Xs vC 8 v0 p.2)]⟩)
  (fun p=>k+1+p.1<L.length∧p.2.length=L.length∧p.2.take (An L (k+1+p.1)).length=An L (k+1+p.1)∧(An L (k+1+p.1)).length≤k+1+p.1∧∀ i,k+1+p.1≤i→i<L.length→p.2.getD i v0=L.getD i v0) (fun p=>L.length - p.1) (0,L)
  ⟨by show k+1+0<L.length; omega,rfl,by show L.take (An L (k+1)).length=An L (k+1); rw [hcm2,List.length_take,Nat.min_eq_left (by omega)],by show (An L (k+1)).length≤k+1; rw [hcm2,List.length_take]; omega,fun i _ _=>rfl⟩
  (Xb rfl (by simp [Xi,hcm2,I]; omega) (by simp [Xj]) rfl) ?_
 clear hcm hcm2 a1 a2 b1 b2 c hx hy
 rintro ⟨q,C⟩ ⟨g1,g2,g3,g4,g5⟩ next
 replace g1:k+1+q<L.length:=g1
 replace g2:C.length=L.length:=g2
 replace g3:C.take (An L (k+1+q)).length=An L (k+1+q):=g3
 replace g4:(An L (k+1+q)).length≤k+1+q:=g4
 replace g5:∀ i,k+1+q≤i→i<L.length→C.getD i v0=L.getD i v0:=g5
 by_cases hq:k+1+q+1<L.length
 rotate_left
 ·have e:k+1+q=L.length - 1:=by omega
  rw [e] at g3 g4
  clear next g5
  simp only [e]
  generalize An L (L.length - 1)=D at *
  refine X1 25 ?_
  simp (disch:=omega) only [mH,↓Xk,wD,↓X2,wA,seval,wE]
  have hgd:∀ i,i<D.length→C.getD i v0=D.getD i v0:=fun i hi=>by
   have:(C.take D.length)[i]?=C[i]?:=by rw [List.getElem?_take,if_pos hi]
   rw [List.getD_eq_getElem?_getD,List.getD_eq_getElem?_getD,← this,g3]
  refine Run.sub (s':=⟨8,[],[.osl 8 v 8 0 L.length,.any,.any,.any,.any,I D.length,.any,.any],[],[o0,o1,o2,o3,o4,o5,o6,o7,.row v (D.length*8) (Xs vC 8 v0 D)]⟩) ?_ (Sub.trans (QU 8 (D.length*8) (Xs vC 8 v0 D) rfl (by omega) (fun j hj=>by
   unfold LI Xs
   rw [if_neg (by omega),hgd (j / 8) (by omega)])) (Xb rfl (by simp [Xi,I]) (by simp [Xj]) (by simp)))
  refine X1 1000 ?_
  simp (disch:=omega) only [↓Xk,wD,↓X2,wA,seval,wE]
  exact IK rfl rfl rfl
 have s1:An L (k+1+(q+1))=if L.getD (k+1+q+1) v0=L.getD (k+1+q) v0 then An L (k+1+q) else An L (k+1+q) ++ [L.getD (k+1+q+1) v0]:=rfl
 have c:=Bl (L.getD (k+1+q+1) v0) (L.getD (k+1+q) v0) (hat _ hq) (hat _ g1)
 have a1:∀ r,r<8→Xs vC 8 v0 C ((k+1)*8+(q+1)*8+r)=(vC (L.getD (k+1+q+1) v0)).getD r .any:=fun r hr=>by
  rw [show (k+1)*8+(q+1)*8+r=(k+1+q+1)*8+r by omega,JP _ _ _ _ _ _ hr,g5 _ (by omega) hq]
 have a2:Xs vC 8 v0 C ((k+1)*8+(q+1)*8)=(vC (L.getD (k+1+q+1) v0)).getD 0 .any:=a1 0 (by omega)
 have b1:∀ r,r<8→Xs vC 8 v0 C ((k+1)*8+q*8+r)=(vC (L.getD (k+1+q) v0)).getD r .any:=fun r hr=>by
  rw [show (k+1)*8+q*8+r=(k+1+q)*8+r by omega,JP _ _ _ _ _ _ hr,g5 _ (by omega) g1]
 have b2:Xs vC 8 v0 C ((k+1)*8+q*8)=(vC (L.getD (k+1+q) v0)).getD 0 .any:=b1 0 (by omega)
 have hj2:(((q+1:Nat):Int) - 1).toNat=q:=by omega
 by_cases he:L.getD (k+1+q+1) v0=L.getD (k+1+q) v0
 ·rw [if_pos he] at s1
  rw [decide_eq_true he] at c
  have nx:=next (q+1,C)
  simp only [s1] at nx
  clear next he s1
  generalize L.getD (k+1+q+1) v0=x at *
  generalize L.getD (k+1+q) v0=y at *
  generalize An L (k+1+q)=D at *
  refine X1 1000 ?_
  simp (disch:=omega) only [hj2,a1,a2,b1,b2,vC,↓Xk,wD,↓X2,wA,seval,wE]
  refine X0 c rfl ?_
  simp (disch:=omega) only [↓Xk,wD,↓X2,wA,seval,wE]
  exact nx _ ⟨by omega,g2,g3,by omega,fun i h1 h2=>g5 i (by omega) h2⟩ (by omega) (Xb rfl (by simp [Xi,I]) (by simp [Xj]) rfl)
 rw [if_neg he] at s1
 rw [decide_eq_false he] at c
 have hset:=NU C (An L (k+1+q)) (L.getD (k+1+q+1) v0) (by omega) g3
 have e1:=qk C (An L (k+1+q)).length (L.getD (k+1+q+1) v0) (by omega)
 have nx:=next (q+1,C.set (An L (k+1+q)).length (L.getD (k+1+q+1) v0))
 simp only [s1] at nx
 have hgd:∀ i,k+1+(q+1)≤i→i<L.length→(C.set (An L (k+1+q)).length (L.getD (k+1+q+1) v0)).getD i v0=L.getD i v0:=fun i h1 h2=>by
  rw [List.getD_eq_getElem?_getD,List.getElem?_set_ne (by omega),← List.getD_eq_getElem?_getD]; exact g5 i (by omega) h2
 clear next he s1 g5
 generalize L.getD (k+1+q+1) v0=x at *
 generalize L.getD (k+1+q) v0=y at *
 generalize An L (k+1+q)=D at *
 refine X1 1000 ?_
 simp (disch:=omega) only [hj2,a1,a2,b1,b2,vC,↓Xk,wD,↓X2,wA,seval,wE]
 refine X0 c rfl ?_
 simp (disch:=omega) only [hj2,a1,a2,b1,b2,vC,↓Xk,wD,↓X2,wA,seval,wE]
 exact nx _ ⟨by omega,by rw [List.length_set]; exact g2,by rw [List.length_append,List.length_singleton]; exact hset,by rw [List.length_append,List.length_singleton]; omega,hgd⟩ (by omega) (Xb rfl (by simp [Xi,I]) (by simp [Xj]) (by rw [← e1]; rfl))
def KM (p:PV):AV:=.ptr 25 (Xo (XO p)) 0
theorem QH (p:PV):KM p=.ptr 25 (Xo (XO p)) 0:=nrfl rfl
theorem JO (p:PV):Settled (KM p):=QS fun j hj=>Xg (XG p) j
theorem NR (a b:PV):Fn Tryz.prog 131 [Jg a,Jg b] (.fn 197 [KM a,KM b]):=by
 refine Fq Tryz.call131 Tryz.func131 5 [] [] [] (by simp [XC]) (X1 1000 ?_)
 simp (disch:=omega) only [AS.start,Jg,XO,↓Xk,wD,↓X2,wA,seval,wE]
 refine Bd rfl (Br ⟨KF (.inl rfl) (by omega) fun j hj=>?_,KF (.inl rfl) (by omega) fun j hj=>?_,trivial⟩)
 ·exact (Xg (XG a) j).sees _
 ·exact (Xg (XG b) j).sees _
theorem GU (f:Nat→AV) (t:Bool):Settled (.sl 0 0 f t):=J0 fun j hj=>absurd hj (Nat.not_lt_zero j)
def rL (i j k:Nat):List AV:=[I 0,I 1,I i,I j,I k] ++ (XN ++ (XN ++ XN))
theorem Rh (i j k:Nat):∀ x∈rL i j k,Settled x:=by simp [rL,XN,Xa,X3,GU]
theorem It (g:Nat→List FV) (h:∀ k,(g k).length≤(g (k+1)).length) {k k':Nat} (hk:k≤k'):(g k).length≤(g k').length:=by
 induction hk with
 | refl=>exact Nat.le_refl _
 | step _ ih=>exact Nat.le_trans ih (h _)
theorem lm (a b:PV) (e:Rat) {i j k:Nat} (hi:i<a.rim.length) (hj:j<b.rim.length) (hk:k≤min a.rim.length b.rim.length - 1):(Z0 a b e i ++ Zi a b e i j ++ ZK a b e i j k).length≤(BK a b e).length:=by
 have h1:=It (ZK a b e i j) (fun k=>by show _≤(ZK a b e i j k ++ _).length; simp) hk
 have h2:=It (Zi a b e i) (fun k=>by show _≤(Zi a b e i k ++ _).length; simp) (show j+1≤b.rim.length by omega)
 have h3:=It (Z0 a b e) (fun k=>by show _≤(Z0 a b e k ++ _).length; simp) (show i+1≤a.rim.length by omega)
 have e2:(Zi a b e i (j+1)).length=(Zi a b e i j).length+(ZK a b e i j (min a.rim.length b.rim.length - 1)).length:=by show (Zi a b e i j ++ _).length=_; rw [List.length_append]
 have e3:(Z0 a b e (i+1)).length=(Z0 a b e i).length+(Zi a b e i b.rim.length).length:=by show (Z0 a b e i ++ _).length=_; rw [List.length_append]
 have e4:(BK a b e).length=(Z0 a b e a.rim.length).length:=rfl
 rw [List.length_append,List.length_append]
 omega
theorem L3 (a b:PV) (e:Rat) (t:Tok) (m:Nat) (Hs:List FV→List AO) (la:a.rim.length≤1000) (lb:b.rim.length≤1000) (ha:0<a.rim.length) (hb:0<b.rim.length) (hHs:∀ D,O2 m (Hs D)) (hce:t.ce.H.length≤m)
  (hy:∀ i j k D,i<a.rim.length→j<b.rim.length→k+1<min a.rim.length b.rim.length→D.length≤(BK a b e).length→YCall Tryz.prog t [.agg (rL i j (k+1))] (Hs D) (.bool true) (Hs (D ++ DZ a b e i j (k+1)))) :
  ICall Tryz.prog t 197 [.yld t.l,KM a,KM b] (Hs []) (Hs (BK a b e)):=by
 refine ICall.intro (fn:=Tryz.f197) Tryz.call197 Tryz.func197 rfl mixed 9 [15,16,19,20] [] [] (by kernel_rfl) (Nat.le_of_ble_eq_true rfl) (by rw [(hHs []).1]; exact hce) (by rw [(hHs []).1]; exact fun o ho=>((hHs _).2 o ho).1) (X1 1000 ?_)
 simp (disch:=omega) only [AS.start,QH,XO,Xh,↓Xk,wD,↓X2,wA,seval,wE]
 refine Xf (fun i:Nat=>⟨9,[15,16,19,20],[.yld t.l,KM a,KM b,.any,I a.rim.length,I b.rim.length,.any,.any,.any],[(15,I a.rim.length),(16,I i)],Hs (Z0 a b e i)⟩) (fun i=>i≤a.rim.length) (fun i=>a.rim.length - i) 0 (by omega)
  (Xb rfl (by simp [Xi,QH,XO,Xh,Xr,X4,I]) (by simp [Xj,Xp,I]) (by simp [Z0])) ?_
 intro i hi next
 by_cases hi2:i<a.rim.length
 rotate_left
 ·obtain rfl:i=a.rim.length:=by omega
  refine X1 1000 ?_
  simp (disch:=omega) only [QH,↓Xk,wD,↓X2,wA,seval,wE]
  exact pN rfl (by show (Hs _).take (Hs []).length=_; rw [(hHs []).1,← (hHs (Z0 a b e a.rim.length)).1,List.take_length]; rfl)
 refine X1 1000 ?_
 simp (disch:=omega) only [QH,↓Xk,wD,↓X2,wA,seval,wE]
 refine Xf (fun j:Nat=>⟨9,[15,16,19,20],[.yld t.l,KM a,KM b,.any,I a.rim.length,I b.rim.length,I i,.any,.any],[(19,I b.rim.length),(20,I j),(15,I a.rim.length),(16,I i)],Hs (Z0 a b e i ++ Zi a b e i j)⟩) (fun j=>j≤b.rim.length) (fun j=>b.rim.length - j) 0 (by omega)
  (Xb rfl (by simp [Xi,QH,I]) (by simp [Xj,Xp,I]) (by simp [Zi])) ?_
 intro j hj next2
 by_cases hj2:j<b.rim.length
 rotate_left
 ·obtain rfl:j=b.rim.length:=by omega
  refine X1 1000 ?_
  simp (disch:=omega) only [QH,↓Xk,wD,↓X2,wA,seval,wE]
  exact next (i+1) _ (by omega) (by omega) (Xb rfl (by simp [Xi,QH,I]) (by simp [Xj,Xp,I]) (by simp [Z0]))
 clear next
 have nx2:=next2 (j+1)
 rw [show Zi a b e i (j+1)=Zi a b e i j ++ ZK a b e i j (min a.rim.length b.rim.length - 1) from rfl,← List.append_assoc] at nx2
 have hpre:=fun k hk=>lm a b e (k:=k) hi2 hj2 hk
 generalize Z0 a b e i ++ Zi a b e i j=D at *
 clear next2
 refine X1 1000 ?_
 simp (disch:=omega) only [QH,↓Xk,wD,↓X2,wA,seval,wE]
 refine Xf (fun k:Nat=>⟨9,[15,16,19,20],[.yld t.l,KM a,KM b,.any,I a.rim.length,I b.rim.length,I i,I j,I (k+1:Nat)],[(19,I b.rim.length),(20,I j),(15,I a.rim.length),(16,I i)],Hs (D ++ ZK a b e i j k)⟩) (fun k=>k≤min a.rim.length b.rim.length - 1) (fun k=>min a.rim.length b.rim.length - k) 0 (by omega)
  (Xb rfl (by simp [Xi,QH,I]) (by simp [Xj,Xp,I]) (by simp [ZK])) ?_
 intro k hk next3
 by_cases hk2:k+1<min a.rim.length b.rim.length
 rotate_left
 ·obtain rfl:k=min a.rim.length b.rim.length - 1:=by omega
  refine X1 1000 ?_
  simp (disch:=omega) only [QH,↓Xk,wD,↓X2,wA,seval,wE]
  exact nx2 _ (by omega) (by omega) (Xb rfl (by simp [Xi,QH,I]) (by simp [Xj,Xp,I]) (by simp))
 have nx3:=next3 (k+1)
 rw [show ZK a b e i j (k+1)=ZK a b e i j k ++ DZ a b e i j (k+1) from rfl,← List.append_assoc] at nx3
 have hE:=hpre k (by omega)
 clear hpre
 generalize D ++ ZK a b e i j k=E at *
 obtain ⟨q1,q2⟩:=hHs E
 obtain ⟨q3,q4⟩:=hHs (E ++ DZ a b e i j (k+1))
 refine X1 1000 ?_
 simp (disch:=omega) only [QH,↓Xk,wD,↓X2,wA,seval,wE]
 refine Cf (t:=t) (H1:=Hs E) (H1':=Hs (E ++ DZ a b e i j (k+1))) (rest:=[]) rfl rfl (List.mem_singleton.2 rfl) (hy i j k E hi2 hj2 hk2 hE) (List.append_nil _).symm (q3.trans q1.symm) (by rw [q1]; exact hce) ?_ (by rw [q1]; exact fun o ho=>(q2 o ho).1) (fun o ho=>(q2 o ho).2.1) (fun o ho=>(q4 o ho).2.1) (QN (fun o ho=>(q2 o ho).2.2) (fun o ho=>(q4 o ho).2.2)) ⟨?_,trivial⟩ ?_
 ·intro x hx
  rw [List.mem_singleton.1 hx]
  exact X8 (Qj (Rh _ _ _))
 ·exact Weak.rfl' _
 simp (disch:=omega) only [QH,↓Xk,wD,↓X2,wA,seval,wE]
 exact nx3 _ (by omega) (by omega) (Xb rfl (by simp [Xi,QH,I]) (by simp [Xj,Xp,I]) (by simp))
def GF (p:FV→Bool) (s:List FV):Int:=if s.any p=true then (s.findIdx p:Nat) else -1
theorem Ig {s:List FV} {j:Nat} (h:j<s.length):s.getD j Cb∈s:=by
 rw [List.getD_eq_getElem?_getD,List.getElem?_eq_getElem h]; exact List.getElem_mem h
theorem WD {p:FV→Bool} {s:List FV} {j:Nat} (hj:j<s.length) (h:p (s.getD j Cb)=true) (hno:∀ i,i<j→p (s.getD i Cb)=false):GF p s=j:=by
 have at_:∀ i (hi:i<s.length),s.getD i Cb=s[i]:=fun i hi=>by rw [List.getD_eq_getElem?_getD,List.getElem?_eq_getElem hi]; rfl
 have e:s.findIdx p=j:=by
  rw [List.findIdx_eq hj]
  exact ⟨by rw [← at_ j hj]; exact h,fun i hi=>by rw [← at_ i (by omega)]; exact hno i hi⟩
 unfold GF
 rw [if_pos (List.any_eq_true.2 ⟨_,Ig hj,h⟩),e]
theorem T0 {p:FV→Bool} {s:List FV} (hno:∀ i,i<s.length→p (s.getD i Cb)=false):GF p s = -1:=by
 unfold GF
 rw [if_neg]
 intro h
 obtain ⟨x,hx,hp⟩:=List.any_eq_true.1 h
 obtain ⟨i,hi,rfl⟩:=List.getElem_of_mem hx
 have:=hno i hi
 rw [List.getD_eq_getElem?_getD,List.getElem?_eq_getElem hi] at this
 simp only [Option.getD_some] at this
 rw [this] at hp; cases hp
theorem Ma (p:FV→Bool) (s:List FV):decide (0≤GF p s)=s.any p:=by
 unfold GF
 cases h:s.any p
 ·simp
 ·rw [if_pos rfl]; exact decide_eq_true (by omega)
theorem SU (s:List FV) (f:FuncId) (caps:List AV) (p:FV→Bool) (hl:s.length<1000000) (hc:∀ a∈caps,Settled a) (hp:∀ x∈s,Fn Tryz.prog f ([KP x] ++ caps) (.bool (p x))) :
  Fn Tryz.prog 204 [Nr s,.fn f caps] (I (GF p s)):=by
 refine Fn.intro (fn:=Tryz.f204) Tryz.call204 Tryz.func204 rfl mixed 6 [6,7,8] [] [] (by kernel_rfl) (Nat.le_of_ble_eq_true rfl) (by simpa [Zn] using Jc hc) (X1 1000 ?_)
 simp (disch:=omega) only [AS.start,Qg,↓Xk,wD,↓X2,wA,seval,wE]
 refine Xf (fun j:Nat=>⟨6,[6,7,8],[Nr s,.fn f caps,.any,.any,.any,.any],[(6,Nr s),(7,I s.length),(8,I j)],[]⟩) (fun j=>j≤s.length∧∀ i,i<j→p (s.getD i Cb)=false) (fun j=>s.length - j) 0 ⟨by omega,by omega⟩
  (Xb rfl (by simp [Xi,Qg,I]) (by simp [Xj,Xp,Qg,I]) rfl) ?_
 rintro j ⟨hj,hno⟩ next
 by_cases hj2:j<s.length
 ·have v1:=fF s j
  have v2:=rU s j
  refine X1 1000 ?_
  simp (disch:=omega) only [Qg,v1,v2,Qa,↓Xk,wD,↓X2,wA,seval,wE]
  refine XW (hp _ (Ig hj2)) (XY _) ?_
  simp (disch:=omega) only [↓Xk,wD,↓X2,wA,seval,wE]
  refine QK (fun ht=>Xt (v:=I j) rfl rfl (Xa _) ?_) (fun hf=>next (j+1) _ ⟨by omega,BL.2 ⟨hno,hf⟩⟩ (by omega) (Xb rfl (by simp [Xi,Qg,I]) (by simp [Xj,Xp,Qg,I]) rfl))
  rw [WD hj2 ht hno]
 ·refine X1 1000 ?_
  simp (disch:=omega) only [Qg,↓Xk,wD,↓X2,wA,seval,wE]
  refine Xt (v:=I (-1)) rfl rfl (Xa _) ?_
  rw [T0 fun i hi=>hno i (by omega)]
theorem Lx (s:List FV) (f:FuncId) (caps:List AV) (p:FV→Bool) (hl:s.length<1000000) (hc:∀ a∈caps,Settled a) (hp:∀ x∈s,Fn Tryz.prog f ([KP x] ++ caps) (.bool (p x))) :
  Fn Tryz.prog 139 [Nr s,.fn f caps] (.bool (s.any p)):=by
 have hi:=Ma p s
 refine Fn.intro (fn:=Tryz.f139) Tryz.call139 Tryz.func139 rfl mixed 5 [] [] [] (by kernel_rfl) (Nat.le_of_ble_eq_true rfl) (by simpa [Zn] using Jc hc) (X1 1000 ?_)
 simp (disch:=omega) only [AS.start,↓Xk,wD,↓X2,wA,seval,wE]
 refine X0 (SU s f caps p hl hc hp) rfl ?_
 simp (disch:=omega) only [↓Xk,wD,↓X2,wA,seval,wE]
 exact Xt (v:=.bool (decide (0≤GF p s))) rfl rfl (X3 _) (by rw [Ma])
theorem Ws (a b:PV) (f g:FV) (ha:0<a.rim.length∧a.rim.length<1000000) (hb:0<b.rim.length∧b.rim.length<1000000) (nf:f.near) (ng:g.near) (hf:vb f.turn≤vm) (hg:vb g.turn≤vm) :
  Fn Tryz.prog 140 ([KP g] ++ [mQ f,KM a,KM b]) (.bool (decide (Mr a.rim.length b.rim.length f g))):=by
 obtain ⟨V,hV⟩:∃ V,V=decide (Mr a.rim.length b.rim.length f g):=⟨_,rfl⟩
 rw [← hV]
 replace hV:=(Bool.eq_iff_iff.1 hV).trans decide_eq_true_iff
 have fin:∀ {s:AS} {v:Bool},s.get 5=.bool v→v=V→RetOk (QX Tryz.prog Tryz.f140 [2,30000004] [] (.bool V)) s:=fun h e=>Xt rfl h (X3 _) (by rw [e])
 obtain ⟨f1,f2,f3⟩:=nf
 obtain ⟨g1,g2,g3⟩:=ng
 have d0:=Int.emod_nonneg (f.EA - g.EA) (show (a.rim.length:Int)≠0 by omega)
 have d1:=Int.emod_lt_of_pos (f.EA - g.EA) (show (0:Int)<a.rim.length by omega)
 have c1:=ZP (f.EA - g.EA) a.rim.length ha.1 (by omega) (by omega)
 have c2:=ZP (g.EB - (f.EA - g.EA) % a.rim.length) b.rim.length hb.1 (by omega) (by omega)
 have c3:=Bl f.turn g.turn hf hg
 unfold Mr at hV
 generalize (f.EA - g.EA) % (a.rim.length:Int)=d at *
 generalize (g.EB - d) % (b.rim.length:Int)=r at *
 refine Fq Tryz.call140 Tryz.func140 7 [] [2,30000004] [] (by simp [Qk,Bt,JO]) (X1 1000 ?_)
 simp (disch:=omega) only [AS.start,QH,mQ,XO,Xh,KP,Qa,List.cons_append,List.nil_append,↓Xk,wD,↓X2,wA,seval,wE]
 refine X0 c1 rfl ?_
 by_cases h1:f.M<g.M
 rotate_left
 ·simp (disch:=omega) only [↓Xk,wD,↓X2,wA,seval,wE]
  exact fin rfl (vN hV (fun hh=>h1 hh.1))
 by_cases h2:d+f.M≤g.M
 rotate_left
 ·simp (disch:=omega) only [↓Xk,wD,↓X2,wA,seval,wE]
  exact fin rfl (vN hV (fun hh=>h2 hh.2.1))
 simp (disch:=omega) only [↓Xk,wD,↓X2,wA,seval,wE]
 refine X0 c2 rfl ?_
 by_cases h3:r=f.EB
 rotate_left
 ·simp (disch:=omega) only [↓Xk,wD,↓X2,wA,seval,wE]
  exact fin rfl (vN hV (fun hh=>h3 hh.2.2.1))
 simp (disch:=omega) only [↓Xk,wD,↓X2,wA,seval,wE]
 refine X0 c3 rfl ?_
 simp (disch:=omega) only [↓Xk,wD,↓X2,wA,seval,wE]
 exact fin rfl (vI hV ⟨fun hh=>hh.2.2.2,fun hh=>⟨h1,h2,h3,hh⟩⟩)
def SS (W:List FV):AV:=.ptr 1 (Xo [Nr W]) 0
theorem F4 (W:List FV):SS W=.ptr 1 (Xo [Nr W]) 0:=nrfl rfl
theorem CB (W:List FV):Settled (SS W):=QS fun j hj=>by
 obtain rfl:j=0:=by omega
 exact Zn W
theorem dK (a b:PV) (f:FV) (W:List FV) (ha:0<a.rim.length∧a.rim.length<1000000) (hb:0<b.rim.length∧b.rim.length<1000000) (hW:W.length<1000000) (nf:f.near) (hf:vb f.turn≤vm) (hall:∀ g∈W,g.near∧vb g.turn≤vm) :
  Fn Tryz.prog 138 ([KP f] ++ [SS W,KM a,KM b]) (.bool (O0 a.rim.length b.rim.length W f)):=by
 have c:=Lx W 140 [mQ f,KM a,KM b] (fun g=>decide (Mr a.rim.length b.rim.length f g)) hW (by simp [Bt,JO]) (fun g hg=>Ws a b f g ha hb nf (hall g hg).1 hf (hall g hg).2)
 change Fn _ _ _ (.bool (O0 a.rim.length b.rim.length W f)) at c
 generalize O0 a.rim.length b.rim.length W f=V at *
 refine Fq Tryz.call138 Tryz.func138 6 [] [] [] (by simp [Qk,CB,JO]) (X1 1000 ?_)
 simp (disch:=omega) only [AS.start,F4,QH,Qg,KP,Qa,List.cons_append,List.nil_append,↓Xk,wD,↓X2,wA,seval,wE]
 refine Ju c rfl ⟨(Zn W).sees _,Br ⟨?_,(JO a).sees _,(JO b).sees _,trivial⟩,trivial⟩ (ZQ _) ?_
 ·exact KF (.inl rfl) (by omega) fun j hj=>(Xg (Qd f) j).sees _
 simp (disch:=omega) only [↓Xk,wD,↓X2,wA,seval,wE]
 exact Xt rfl rfl (X3 _) rfl
def Ky (a b:PV) (D:List FV):List AO:=[.row 0 25 (Xo (XO a)),.row 0 25 (Xo (XO b)),.row 0 1 (Xo [.osl 3 D.length 29 0 D.length]),.row D.length (D.length*29) (Xs Qa 29 Cb D)]
theorem VL (a b:PV) (D:List FV):Ky a b D=[.row 0 25 (Xo (XO a)),.row 0 25 (Xo (XO b)),.row 0 1 (Xo [.osl 3 D.length 29 0 D.length]),.row D.length (D.length*29) (Xs Qa 29 Cb D)]:=nrfl rfl
theorem FY (a b:PV) (D:List FV) (m:Nat) (h:4≤m):∀ o∈Ky a b D,XQ m o:=fun o ho=>by
 simp only [Ky,List.mem_cons,List.not_mem_nil,or_false] at ho
 rcases ho with rfl | rfl | rfl | rfl
 ·exact XE (XG a)
 ·exact XE (XG b)
 ·intro j hj
  obtain rfl:j=0:=by omega
  exact Hh (by omega)
 ·exact fun j _=>X8 (Xg (Qd _) _)
theorem Oh (a b:PV) (D:List FV):O2 4 (Ky a b D):=⟨rfl,fun o ho=>⟨FY a b D 4 (by omega) o ho,by
 simp only [Ky,List.mem_cons,List.not_mem_nil,or_false] at ho
 rcases ho with rfl | rfl | rfl | rfl <;> simp⟩⟩
def qx (i j k:Nat):List AV:=[I 0,I 1,I i,I j,I k] ++ (KR ++ (KR ++ KR))
theorem Ri (i j k:Nat):∀ x∈qx i j k,Settled x:=by simp [qx,KR,Xa,X3,GU]
theorem SG (a b:PV) (f:FV) (n:Nat):An (Ak (Qh a b f n) ((Qh a b f n).length - 1)) ((Ak (Qh a b f n) ((Qh a b f n).length - 1)).length - 1)=KH a b f n:=by
 rw [B7]
 by_cases h:0<(Qh a b f n).length
 ·exact VO a b f n h
 have e:Qh a b f n=[]:=List.eq_nil_of_length_eq_zero (by omega)
 have e2:KH a b f n=[]:=by
  refine List.eq_nil_iff_forall_not_mem.2 fun x hx=>?_
  have:x∈Qh a b f n:=(Ol a b f x n).2 ((A2 a b f x n).1 hx)
  rw [e] at this; cases this
 rw [e,e2]; rfl
theorem dJ (a b:PV) {ta tb:Rat} (ha:GP a ta) (hb:GP b tb):Fn Tryz.prog 50 [Jg a,Jg b] (Nr (OU a b (ta+tb))):=by
 have la:=(Aa _ ha.poly).1
 have lb:=(Aa _ hb.poly).1
 simp only [Xy,List.length_map] at la lb
 have cs:=NR a b
 obtain ⟨e,hT⟩:∃ e,e=ta+tb:=⟨_,rfl⟩
 rw [← hT]
 refine Fq Tryz.call50 Tryz.func50 15 [18,32,33,34,63,64,65] [] [5,6,7] (by simp [XC]) (X1 1000 ?_)
 simp (disch:=omega) only [AS.start,Jg,XO,↓Xk,wD,↓X2,wA,seval,wE]
 refine X0 cs rfl ?_
 simp (disch:=omega) only [XO,↓Xk,wD,↓X2,wA,seval,wE]
 refine Run.sub (s':=⟨15,[18,32,33,34,63,64,65],[.any,.any,.ref 0 0 0,.ref 1 0 0,.any,.ref 2 0 0,.any,.any,.any,.any,.any,.any,.any,.any,.any],[(17,.fn 197 [KM a,KM b])],Ky a b []⟩) ?_
  ((QU 2 1 (fun _=>.sl 0 0 (fun _=>.any) true) rfl (Nat.le_refl _) (fun j hj=>by have e:j=0:=Nat.lt_one_iff.1 hj; subst e; rfl)).trans ((EK 2 29 (Xs Qa 29 Cb []) rfl 1 (Nat.le_refl _)).trans ((QU 2 1 (Xo [.osl 3 0 29 0 0]) rfl (Nat.le_refl _) (fun j hj=>by have e:j=0:=Nat.lt_one_iff.1 hj; subst e; rfl)).trans (Xb rfl (by simp [Xi]) (by simp [Xj,Xp,QH,XO,Xh,Xr,X4,I]) (by simp [Ky,XO,Xh,Xr,X4,I])))))
 have hlenA:=Of a b e la.2 lb.2 (by omega) (by omega)
 refine Ec (gf:=197) (caps:=[KM a,KM b]) (Hn:=Ky a b (BK a b e)) rfl rfl rfl (fun t ht=>?_) ?_
 ·have hce:t.ce.H.length≤4:=by rw [ht.ch]; exact Nat.le_refl _
  refine L3 a b e t 4 (fun D=>Ky a b D) (by omega) (by omega) (by omega) (by omega) (fun D=>Oh a b D) hce fun i j k D hi hj hk hD=>?_
  have hst:∀ t lo hi,BF a.rim.length b.rim.length ⟨0,1,i,j,(k+1:Nat),t,lo,hi⟩:=fun t lo hi=>⟨⟨by show (0:Int)≤i; omega,by show (i:Int)<_; omega⟩,⟨by show (0:Int)≤j; omega,by show (j:Int)<_; omega⟩,by show (1:Int)≤((k+1:Nat):Int); omega,by show ((k+1:Nat):Int)<_; omega,by show ((k+1:Nat):Int)<_; omega⟩
  have cp:=GK a b (Jv i j (k+1) v0) (hst _ _ _) ha.even hb.even
  have wf:=YR i j (k+1)
  have hfk:DZ a b e i j (k+1)=if H8 a b (Jv i j (k+1) v0) then BR a b e i j (k+1) (KH a b (Jv i j (k+1) v0) (k+1)) else []:=rfl
  rw [hfk]
  refine Dx (str:=[]) (hcs:=[5,6,7]) ht mixed (by kernel_rfl) (by kernel_rfl) rfl (fun p hp=>?_) (fun o ho=>((Oh a b _).2 o ho).1) (fun l r hr=>?_)
  ·have hp':p=18:=by simpa using hp
   subst hp'
   exact Nat.le_of_ble_eq_true rfl
  show Run _ _ ⟨15,[18,32,33,34,63,64,65],[.any,.any,.ref 0 0 0,.ref 1 0 0,.any,.ref 2 0 0,.any,.any,.any,.any,.any,.any,.any,.any,.any],[(18,.agg (rL i j (k+1))),(17,.fn 197 [KM a,KM b])],Ky a b D⟩
  refine X1 1000 ?_
  simp (disch:=omega) only [VL,QH,rL,XN,List.cons_append,List.nil_append,↓Xk,wD,↓X2,wA,seval,wE]
  refine Er hr ?_
  refine X1 1000 ?_
  simp (disch:=omega) only [XO,↓Xk,wD,↓X2,wA,seval,wE]
  refine XW cp ⟨Weak.rfl' _,Weak.rfl' _,XT wf,trivial⟩ ?_
  by_cases hp:H8 a b (Jv i j (k+1) v0)
  rotate_left
  ·rw [if_neg hp,List.append_nil]
   simp (disch:=omega) only [decide_eq_false hp,↓Xk,wD,↓X2,wA,seval,wE]
   exact lC rfl
  rw [if_pos hp]
  simp (disch:=omega) only [decide_eq_true hp,↓Xk,wD,↓X2,wA,seval,wE]
  have hZ:=FY a b D
  have cA:=On (.row 0 25 (Xo (XO a))) (.row 0 25 (Xo (XO b))) (.row 0 1 (Xo [.osl 3 D.length 29 0 D.length])) (.row D.length (D.length*29) (Xs Qa 29 Cb D)) (.row 0 29 (Xo (qx i j (k+1)))) (fun m hm=>hZ m (by omega) _ (by simp [Ky])) (fun m hm=>hZ m (by omega) _ (by simp [Ky])) (fun m hm=>hZ m (by omega) _ (by simp [Ky])) (fun m hm=>hZ m (by omega) _ (by simp [Ky])) (fun m hm=>XE (Ri i j (k+1))) a b (Jv i j (k+1) v0) (hst _ _ _) ha.even hb.even
  rw [show (Jv i j (k+1) v0).M.toNat=k+1 from rfl] at cA
  have hAl:=CS a b (Jv i j (k+1) v0) (k+1)
  have hAs:=Ek a b (Jv i j (k+1) v0) ha.even.near hb.even.near (k+1)
  have hct:=SG a b (Jv i j (k+1) v0) (k+1)
  have hsm:=FK a b (Jv i j (k+1) v0) ha.even.near hb.even.near (k+1)
  have hlen:=EL a b (Jv i j (k+1) v0) (k+1)
  have hcm2:=U8 (Ak (Qh a b (Jv i j (k+1) v0) (k+1)) ((Qh a b (Jv i j (k+1) v0) (k+1)).length - 1))
  generalize Qh a b (Jv i j (k+1) v0) (k+1)=A at *
  generalize KH a b (Jv i j (k+1) v0) (k+1)=L at *
  have hu8:∀ o∈[AO.row 0 25 (Xo (XO a)),.row 0 25 (Xo (XO b)),.row 0 1 (Xo [.osl 3 D.length 29 0 D.length]),.row D.length (D.length*29) (Xs Qa 29 Cb D),.row 0 29 (Xo (qx i j (k+1))),.dead,.dead,.dead],o≠AO.unborn:=by simp
  have cS:=lS (.row 0 25 (Xo (XO a))) (.row 0 25 (Xo (XO b))) (.row 0 1 (Xo [.osl 3 D.length 29 0 D.length])) (.row D.length (D.length*29) (Xs Qa 29 Cb D)) (.row 0 29 (Xo (qx i j (k+1)))) .dead .dead .dead hu8 A.length A (fun x hx=>by have:=hAs x hx; unfold vm; omega) (by omega)
  have hSl:=B7 A (A.length - 1)
  have hSm:∀ x∈Ak A (A.length - 1),vb x≤vm:=fun x hx=>by
   by_cases h0:0<A.length
   ·have:=hAs x (IY A (A.length - 1) (by omega) x hx); unfold vm; omega
   ·rw [List.eq_nil_of_length_eq_zero (show (Ak A (A.length - 1)).length=0 by omega)] at hx; cases hx
  have cC:=SH (.row 0 25 (Xo (XO a))) (.row 0 25 (Xo (XO b))) (.row 0 1 (Xo [.osl 3 D.length 29 0 D.length])) (.row D.length (D.length*29) (Xs Qa 29 Cb D)) (.row 0 29 (Xo (qx i j (k+1)))) .dead .dead .dead A.length (Ak A (A.length - 1)) hSm (by omega)
  rw [hct] at cC
  rw [hSl] at cC
  generalize Ak A (A.length - 1)=S at *
  refine Ko rfl cA (QN (by simp) (by simp)) (fun id hh=>absurd (List.mem_of_getElem? hh) (by simp)) ⟨Weak.rfl' _,Weak.rfl' _,XT wf,trivial⟩ ?_
  simp (disch:=omega) only [↓Xk,wD,↓X2,wA,seval,wE]
  refine Ko rfl cS (QN (by simp) (by simp)) (fun id hh=>absurd (List.mem_of_getElem? hh) (by simp)) (XY _) ?_
  simp (disch:=omega) only [↓Xk,wD,↓X2,wA,seval,wE]
  refine Ko rfl cC (QN (by simp) (by simp)) (fun id hh=>absurd (List.mem_of_getElem? hh) (by simp)) (XY _) ?_
  simp (disch:=omega) only [↓Xk,wD,↓X2,wA,seval,wE]
  have hvc:∀ a:V2,∀ x∈vC a,Settled x:=fun a=>by simp [vC,X5,X3]
  have bAll:∀ (E:List FV) (f:FV),∀ o∈Ky a b E ++ [.row 0 29 (Xo (Qa f)),.dead,.dead,.dead,.row A.length (L.length*8) (Xs vC 8 v0 L)],XQ 9 o:=fun E f o ho=>by
   rcases List.mem_append.1 ho with ho | ho
   ·exact FY a b E 9 (by omega) o ho
   simp only [List.mem_cons,List.not_mem_nil,or_false] at ho
   rcases ho with rfl | rfl | rfl | rfl | rfl
   ·exact XE (Qd f)
   ·trivial
   ·trivial
   ·trivial
   ·exact fun j _=>X8 (Xg (hvc _) _)
  refine Xf (fun w:Nat×V2×V2×V2=>⟨15,[18,32,33,34,63,64,65],[.any,.any,.ref 0 0 0,.ref 1 0 0,.any,.ref 2 0 0,.ref 4 0 0,.any,.any,.any,.any,.any,.any,.any,.any],[(32,.osl 8 A.length 8 0 L.length),(33,I L.length),(34,I w.1)],Ky a b (D ++ BR a b e i j (k+1) (L.take w.1)) ++ [.row 0 29 (Xo (Qa ⟨0,1,i,j,(k+1:Nat),w.2.1,w.2.2.1,w.2.2.2⟩)),.dead,.dead,.dead,.row A.length (L.length*8) (Xs vC 8 v0 L)]⟩) (fun w=>w.1≤L.length) (fun w=>L.length - w.1) (0,v0,v0,v0) (Nat.zero_le _)
   (Sub.trans (L5 4 (Qa (Jv i j (k+1) v0)) rfl rfl wf) (Xb rfl (by simp [Xi,I]) (by simp [Xj,Xp,I]) (by simp [Ky,XO,Xh,Xr,X4,BR,Jv,I]))) ?_
  rintro ⟨t,T,lo,hi'⟩ ht nextt
  replace ht:t≤L.length:=ht
  by_cases ht2:t<L.length
  rotate_left
  ·obtain rfl:t=L.length:=by omega
   rw [List.take_length] at *
   refine X1 1000 ?_
   simp (disch:=omega) only [Ky,↓Xk,wD,↓X2,wA,seval,wE]
   exact lC rfl
  have hx:=hsm (L.getD t v0) (JI ht2)
  have htk:=SV a b e i j (k+1) L t ht2
  have v1:=JP vC 8 v0 L t
  have v2:=K6 vC 8 v0 L t (by omega)
  have htl:=M5 a b e i j (k+1) (L.take t)
  rw [List.length_take] at htl
  generalize L.getD t v0=x at *
  have ca:=ES a b ⟨0,1,i,j,(k+1:Nat),x,lo,hi'⟩ ha.even hb.even (by show vb x≤1000; omega) ha.tol hb.tol (by have:=ha.qt; omega) (by have:=hb.qt; omega)
  rw [← hT] at ca
  have hag:XD a.rim b.rim ⟨0,1,i,j,(k+1:Nat),x,lo,hi'⟩ e=XD a.rim b.rim (Jv i j (k+1) x) e:=rfl
  rw [hag] at ca
  have hqe:qb e≤41:=by rw [hT]; have:=K2 ta tb; have:=ha.qt; have:=hb.qt; omega
  have hfine:(B8 a b (Jv i j (k+1) x) e).fine:=by
   obtain ⟨h1,h2⟩:=HK a b (Jv i j (k+1) x) ha.even.near hb.even.near e (by show vb x≤60; omega)
   exact ⟨by show vb x≤60; omega,by show vb (XD a.rim b.rim (Jv i j (k+1) x) e).1≤300; omega,by show vb (XD a.rim b.rim (Jv i j (k+1) x) e).2.1≤300; omega⟩
  have cc:=M2 a b _ ha hb hfine
  rw [← hT] at cc
  have hok:GA a b e i j (k+1) x=((XD a.rim b.rim (Jv i j (k+1) x) e).2.2 && Ai a b (B8 a b (Jv i j (k+1) x) e) e):=rfl
  have hsf:B8 a b (Jv i j (k+1) x) e=⟨0,1,i,j,(k+1:Nat),x,(XD a.rim b.rim (Jv i j (k+1) x) e).1,(XD a.rim b.rim (Jv i j (k+1) x) e).2.1⟩:=rfl
  rw [hok,hsf] at htk
  rw [hsf] at cc
  generalize XD a.rim b.rim (Jv i j (k+1) x) e=G at *
  obtain ⟨g1,g2,ok⟩:=G
  simp only at htk cc ca
  have nx2:=nextt (t+1,x,g1,g2)
  rw [htk,← List.append_assoc] at nx2
  have hDl:(D ++ BR a b e i j (k+1) (L.take t)).length≤24000+12:=by rw [List.length_append]; omega
  generalize D ++ BR a b e i j (k+1) (L.take t)=E at *
  generalize Ai a b ⟨0,1,i,j,(k+1:Nat),x,g1,g2⟩ e=q at *
  refine X1 1000 ?_
  simp (disch:=omega) only [Ky,vC,Qa,XO,Xh,List.cons_append,List.nil_append,v1,v2,↓Xk,wD,↓X2,wA,seval,wE]
  refine X0 ca rfl ?_
  cases ok with
  | false =>
   simp only [Bool.false_and,Bool.false_eq_true,if_false,List.append_nil] at nx2
   simp (disch:=omega) only [↓Xk,wD,↓X2,wA,seval,wE]
   exact nx2 _ (by show t+1≤L.length; omega) (by show L.length - (t+1)<L.length - t; omega) (Xz (m:=9) (Nat.le_add_right 4 5) rfl (by simp [Xi,I]) (by simp [Xj,Xp,I]) (by simp [Ky,XO,Qa,Xh,Xr,X4,I,sg]) (by simp [XA]) (by simp [XA]) (bAll _ _))
  | true =>
   simp (disch:=omega) only [↓Xk,wD,↓X2,wA,seval,wE]
   refine X0 cc rfl ?_
   cases q with
   | false =>
    simp only [Bool.and_false,Bool.false_eq_true,if_false,List.append_nil] at nx2
    simp (disch:=omega) only [↓Xk,wD,↓X2,wA,seval,wE]
    exact nx2 _ (by show t+1≤L.length; omega) (by show L.length - (t+1)<L.length - t; omega) (Xz (m:=9) (Nat.le_add_right 4 5) rfl (by simp [Xi,I]) (by simp [Xj,Xp,I]) (by simp [Ky,XO,Qa,Xh,Xr,X4,I,sg]) (by simp [XA]) (by simp [XA]) (bAll _ _))
   | true =>
    simp only [Bool.and_true,if_true] at nx2
    have hap:=Qv Qa 29 Cb E ⟨0,1,i,j,(k+1:Nat),x,g1,g2⟩ (by omega)
    have hEl:(E ++ [(⟨0,1,i,j,(k+1:Nat),x,g1,g2⟩:FV)]).length=E.length+1:=by simp
    simp (disch:=omega) only [↓Xk,wD,↓X2,wA,seval,wE]
    refine ⟨Um ⟨0,1,i,j,(k+1:Nat),x,g1,g2⟩,?_⟩
    exact nx2 _ (by show t+1≤L.length; omega) (by show L.length - (t+1)<L.length - t; omega) (Xz (m:=9) (Nat.le_add_right 4 5) rfl (by simp [Xi,I]) (by simp [Xj,Xp,I]) (by simp only [Ky,hEl,← hap]; rfl) (by simp [XA]) (by simp [XA]) (bAll _ _))
 have hfin:∀ f∈BK a b e,f.near∧vb f.turn≤vm:=fun f hf=>by
  rw [hT] at hf
  obtain ⟨h1,h2,_⟩:=OV ha hb hf
  exact ⟨h1,by unfold vm; omega⟩
 have hdef:OU a b e=(BK a b e).filter fun f=>!O0 a.rim.length b.rim.length (BK a b e) f:=rfl
 rw [hdef]
 clear hdef
 show Run _ _ ⟨15,[18,32,33,34,63,64,65],[.any,.any,.ref 0 0 0,.ref 1 0 0,.any,.ref 2 0 0,.any,.any,.any,.any,.any,.any,.any,.any,.any],[(17,.fn 197 [KM a,KM b])],Ky a b (BK a b e)⟩
 generalize BK a b e=W at *
 refine Run.sub (s':=⟨15,[18,32,33,34,63,64,65],[.any,.any,KM a,KM b,.any,SS W,.any,.any,.any,.any,.any,.any,.any,.any,.any],[],[]⟩) ?_
  ((QL 0 rfl).trans ((QL 1 rfl).trans ((QL 3 rfl).trans ((ZF 2 (Xo [Nr W]) rfl (fun j hj=>by
   obtain rfl:j=0:=by omega
   exact EN (M:=W.length*29) rfl (Nat.le_refl _) (fun h=>by rw [h]) (fun j hj=>J1 _ _))).trans ((QL 2 rfl).trans ((C8 2 rfl rfl (by omega)).trans ((C8 3 rfl rfl (by omega)).trans ((C8 5 rfl rfl (by omega)).trans
   (Xz (m:=0) (Nat.zero_le _) rfl (by simp [AS.put,Xi,QH,F4]) (by simp [AS.put,Xj]) (by simp) (by simp [XA,X8 (JO a),X8 (JO b),X8 (CB W)]) (by simp [XA]) (by simp))))))))))
 refine X1 1000 ?_
 simp (disch:=omega) only [QH,F4,Qg,↓Xk,wD,↓X2,wA,seval,wE]
 have sCl:Settled (.fn 138 [SS W,KM a,KM b]):=Jc (by simp [CB,JO])
 have bCl:Kl 1 (.fn 138 [SS W,KM a,KM b])=True:=eq_true (X8 sCl)
 have bW:Kl 1 (Nr W)=True:=eq_true (X8 (Zn W))
 have b3:∀ v n l,XQ 1 (.row v n (Xs Qa 29 Cb l))=True:=fun v n l=>eq_true fun j _=>X8 (Xg (Qd _) _)
 refine Xf (fun i:Nat=>⟨15,[18,32,33,34,63,64,65],[.any,.any,.any,.any,.any,.any,.any,.any,.any,.any,.any,.fn 138 [SS W,KM a,KM b],.osl 0 ((W.take i).filter (fun f=>!O0 a.rim.length b.rim.length W f)).length 29 0 ((W.take i).filter (fun f=>!O0 a.rim.length b.rim.length W f)).length,.any,.any],[(65,I i),(64,I W.length),(63,Nr W)],[.row ((W.take i).filter (fun f=>!O0 a.rim.length b.rim.length W f)).length (((W.take i).filter (fun f=>!O0 a.rim.length b.rim.length W f)).length*29) (Xs Qa 29 Cb ((W.take i).filter (fun f=>!O0 a.rim.length b.rim.length W f)))]⟩) (fun i=>i≤W.length∧((W.take i).filter (fun f=>!O0 a.rim.length b.rim.length W f)).length≤i) (fun i=>W.length - i) 0 ⟨by omega,by simp⟩
  (Sub.trans (QT 12 29 (Xs Qa 29 Cb []) rfl) (Xb rfl (by simp [AS.put,Xi,F4,QH,Qg,I]) (by simp [AS.put,Xj,Xp,Qg,I]) (by simp [AS.put]))) ?_
 rintro i ⟨hi,hil⟩ next
 by_cases hi2:i<W.length
 rotate_left
 ·obtain rfl:i=W.length:=by omega
  rw [List.take_length]
  refine X1 1000 ?_
  simp (disch:=omega) only [Qg,↓Xk,wD,↓X2,wA,seval,wE]
  exact kS _ rfl rfl rfl
 have nx:=next (i+1)
 rw [Wt _ _ W i hi2] at nx
 generalize (W.take i).filter (fun f=>!O0 a.rim.length b.rim.length W f)=D at *
 obtain ⟨n1,n2⟩:=hfin _ (JI (d:=Cb) hi2)
 have v1:=fF W i
 have v2:=rU W i
 have c:=dK a b (W.getD i Cb) W ⟨by omega,by omega⟩ ⟨by omega,by omega⟩ (by omega) n1 n2 hfin
 generalize W.getD i Cb=f at *
 generalize O0 a.rim.length b.rim.length W f=q at *
 refine X1 1000 ?_
 simp (disch:=omega) only [Qg,v1,v2,Qa,↓Xk,wD,↓X2,wA,seval,wE]
 refine X0 c rfl ?_
 cases q with
 | true =>
  rw [if_pos rfl,List.append_nil] at nx
  simp (disch:=omega) only [Qg,↓Xk,wD,↓X2,wA,seval,wE]
  exact nx _ ⟨by omega,by omega⟩ (by omega) (Xz (m:=1) (Nat.zero_le _) rfl (by simp [Xi,I]) (by simp [Xj,Xp,Qg,I]) (by simp) (by simp [XA,bCl]) (by simp [XA,bW]) (by simp [b3]))
 | false =>
  rw [if_neg (by decide)] at nx
  have hap:=Qv Qa 29 Cb D f (by omega)
  have hDl:(D ++ [f]).length=D.length+1:=by simp
  simp (disch:=omega) only [Qg,↓Xk,wD,↓X2,wA,seval,wE]
  refine ⟨Um f,nx _ ⟨by omega,by omega⟩ (by omega) (Xz (m:=1) (Nat.zero_le _) rfl (by simp [Xi,hDl,I]) (by simp [Xj,Xp,Qg,I]) (by simp only [hDl,← hap]; rfl) (by simp [XA,bCl]) (by simp [XA,bW]) (by simp [b3]))⟩
theorem SW {a b:PV} {e:Rat} {f:FV} (h:f∈BK a b e) (ha:0<a.rim.length) (hb:0<b.rim.length):B8 a b f e=f:=by
 obtain ⟨i,j,k,t,hi,hj,k0,kn,km,hp,ht,ho,rfl⟩:=(CQ a b e f ha hb).1 h
 rfl
theorem HB {p:PV} {t:Rat} (h:GP p t):0<p.rim.length∧p.rim.length≤12:=by have:=h.poly.1; simp [Xy] at this; omega
structure Fnd (a b:PV) (e:Rat) (L:List FV):Prop where
 len:L.length≤24000
 fine:∀ f∈L,f.fine
 self:∀ f∈L,B8 a b f e=f
 ok:∀ f∈L,AB a b f e=0
theorem dM {a b:PV} {ta tb:Rat} (ha:GP a ta) (hb:GP b tb):Fnd a b (ta+tb) (OU a b (ta+tb)):=by
 have la:=HB ha; have lb:=HB hb
 refine ⟨Nat.le_trans (List.length_filter_le _ _) (Of a b (ta+tb) la.2 lb.2 la.1 lb.1),fun f hf=>?_,fun f hf=>SW (List.mem_filter.1 hf).1 la.1 lb.1,fun f hf=>Gx (List.mem_filter.1 hf).1 la.1 lb.1⟩
 obtain ⟨_,h1,h2,h3⟩:=OV ha hb (List.mem_filter.1 hf).1
 exact ⟨by omega,by omega,by omega⟩
theorem Sg {a b:PV} {e:Rat} {f:FV} (h:f∈BK a b e) (ha:0<a.rim.length) (hb:0<b.rim.length):f.A=0∧f.B=1∧(0≤f.EA∧f.EA<a.rim.length)∧(0≤f.EB∧f.EB<b.rim.length)∧1≤f.M∧f.M<a.rim.length∧f.M<b.rim.length:=by
 obtain ⟨i,j,k,t,hi,hj,k0,kn,km,hp,ht,ho,rfl⟩:=(CQ a b e f ha hb).1 h
 refine ⟨rfl,rfl,?_⟩
 show (0≤(i:Int)∧(i:Int)<a.rim.length)∧(0≤(j:Int)∧(j:Int)<b.rim.length)∧1≤(k:Int)∧(k:Int)<a.rim.length∧(k:Int)<b.rim.length
 omega
theorem Wb {a b:PV} {e:Rat} {f:FV} (h:AB a b f e=0) (hA:f.A=0) (hB:f.B=1) (ha:0<a.rim.length) (hb:0<b.rim.length):f∈BK a b e:=by
 obtain ⟨h1,h2,h3,⟨h4,h5,h6⟩,h7⟩:=(Hi a b f e).1 h
 obtain ⟨A,B,EA,EB,M,t,lo,hi⟩:=f
 simp only at hA hB
 subst hA hB
 obtain ⟨⟨x1,x2⟩,⟨x3,x4⟩,x5,x6,x7⟩:=h1
 simp only at x1 x2 x3 x4 x5 x6 x7
 obtain ⟨i,rfl⟩:=Int.eq_ofNat_of_zero_le x1
 obtain ⟨j,rfl⟩:=Int.eq_ofNat_of_zero_le x3
 obtain ⟨k,rfl⟩:=Int.eq_ofNat_of_zero_le (show 0≤M by omega)
 simp only at h5 h6
 obtain ⟨k',q1,q2,q3⟩:=h3
 have hs:(⟨0,1,(i:Int),(j:Int),(k:Int),t,lo,hi⟩:FV)=B8 a b (Jv i j k t) e:=by
  show _=(⟨0,1,(i:Int),(j:Int),(k:Int),t,(XD a.rim b.rim (Jv i j k t) e).1,(XD a.rim b.rim (Jv i j k t) e).2.1⟩:FV)
  rw [show XD a.rim b.rim (Jv i j k t) e=XD a.rim b.rim ⟨0,1,(i:Int),(j:Int),(k:Int),t,lo,hi⟩ e from rfl,h5,h6]
 refine (CQ a b e _ ha hb).2 ⟨i,j,k,t,by omega,by omega,by omega,by omega,by omega,h2,?_,?_,hs⟩
 ·rw [A2]
  exact ⟨k',by simpa using q1,q2,q3⟩
 ·unfold GA
  rw [Bool.and_eq_true,← hs]
  exact ⟨h4,h7⟩
def BC (R:List (Int×Int)):PV:=⟨0,0,R,List.replicate R.length false,List.replicate R.length 0,RQ.of 0,RQ.of (Rat.divInt 1 1),RQ.of (Rat.divInt 1 1),RQ.of (Rat.divInt 1 1),RQ.of 0⟩
theorem Ix (R:List (Int×Int)) (hR:R.length<1000000):Fn Tryz.prog 130 [CO R] (Jg (BC R)):=by
 have o1:=QY 1 1 ⟨by omega,by omega⟩ ⟨by omega,by omega⟩
 obtain ⟨V,hV⟩:∃ V,V=Jg (BC R):=⟨_,rfl⟩
 have sV:Settled V:=hV▸XC _
 rw [← hV]
 unfold BC at hV
 generalize Rat.divInt 1 1=q1 at *
 refine Fq Tryz.call130 Tryz.func130 4 [] [2,30000003] [] (by simp [Qt]) (X1 1000 ?_)
 simp (disch:=omega) only [AS.start,Xh,↓Xk,wD,↓X2,wA,seval,wE]
 refine X0 o1 rfl ?_
 simp (disch:=omega) only [Xh,↓Xk,wD,↓X2,wA,seval,wE]
 subst hV
 have h2:∀ (H:List AO),H[2]?=some (.row 0 R.length fun _=>.bool false)→Jt H (.osl 2 0 1 0 R.length) (Zt (List.replicate R.length false)):=fun H ho=>by
  rw [Xr,List.length_replicate]
  refine QI (.inl ho) (by omega) (fun h=>by rw [h]) fun j hj=>?_
  rw [JX,List.getD_eq_getElem?_getD,List.getElem?_replicate]
  split <;> exact (X3 _).sees _
 have h3:∀ (H:List AO),H[3]?=some (.row 0 R.length fun _=>.int .i64 0)→Jt H (.osl 3 0 1 0 R.length) (X6 (List.replicate R.length 0)):=fun H ho=>by
  rw [X4,List.length_replicate]
  refine QI (.inl ho) (by omega) (fun h=>by rw [h]) fun j hj=>?_
  rw [JX,List.getD_eq_getElem?_getD,List.getElem?_replicate]
  split <;> exact (Xa _).sees _
 have h4:∀ (H:List AO) (f:Nat→AV) (t:Bool),Jt H (.sl 0 0 f t) (X6 (RQ.of 0).pd):=fun H f t=>by
  have e:(RQ.of 0).pd=[]:=by rw [← Le]; rfl
  rw [e]; exact Xu (X5 _) (Qe _ _)
 have h5:∀ (H:List AO) (f:Nat→AV) (t:Bool),Jt H (.sl 0 0 f t) (X6 (RQ.of 0).qd):=fun H f t=>by
  have e:(RQ.of 0).qd=[]:=by rw [← Le]; rfl
  rw [e]; exact Xu (X5 _) (Qe _ _)
 have h6:∀ (H:List AO),Jt H (.bool false) (.bool (RQ.of 0).pn):=fun H=>by
  have e:(RQ.of 0).pn=false:=by rw [← Le]; rfl
  rw [e]; exact (X3 _).sees _
 have h7:∀ (H:List AO),Jt H (.bool false) (.bool (RQ.of 0).qn):=fun H=>(X3 _).sees _
 refine Fy rfl Fb rfl rfl rfl ?_
 refine B5 ⟨(Xa _).sees _,(Xa _).sees _,(Qt _).sees _,h2 _ rfl,h3 _ rfl,h6 _,h4 _ _ _,h7 _,h5 _ _ _,(X3 _).sees _,(X5 _).sees _,(X3 _).sees _,(X5 _).sees _,(X3 _).sees _,(X5 _).sees _,(X3 _).sees _,(X5 _).sees _,(X3 _).sees _,(X5 _).sees _,(X3 _).sees _,(X5 _).sees _,h6 _,h4 _ _ _,h7 _,h5 _ _ _,trivial⟩
theorem Mu (l:List Int):GP (Zz l) (pV l):=by
 have hro:=NJ l
 have hl:=MD l
 have b10:=Xv l 10 3 (by omega)
 have q:=AQ (Ab.atF l 10 3) 4 ⟨by omega,by omega⟩ ⟨by omega,by omega⟩
 refine ⟨⟨by have:=hro.1; omega,by omega,by omega,fun c hc=>?_⟩,hro.2.2,rfl,?_⟩
 ·have:=hro.2.1 c hc; omega
 ·show qb (Rat.divInt (Ab.atF l 10 3) 4)≤20; omega
theorem Yc (l m:List Int) (hl:Bg l) (hl2:l.length<9223372036854775808) (hm:Bg m) (hm2:m.length<9223372036854775808) :
  ∃ (A B:PV) (ta tb:Rat),Fn Tryz.prog 38 [X6 l,X6 m] (.tup [Jg A,Jg B])∧GP A ta∧GP B tb∧A.small∧B.small:=by
 by_cases h:0<m.length
 ·have c1:=Mv l hl hl2
  have c2:=Mv m hm hm2
  have s1:=Fo l; have s2:=Fo m
  have g1:=Mu l; have g2:=Mu m
  refine ⟨Zz l,Zz m,_,_,?_,g1,g2,s1,s2⟩
  generalize Zz l=A at *
  generalize Zz m=B at *
  refine Fq Tryz.call38 Tryz.func38 7 [] [4,50000006] [] (by simp [X5]) (X1 1000 ?_)
  simp (disch:=omega) only [AS.start,X4,↓Xk,wD,↓X2,wA,seval,wE]
  refine X0 c1 rfl ?_
  simp (disch:=omega) only [X4,↓Xk,wD,↓X2,wA,seval,wE]
  refine X0 c2 rfl ?_
  simp (disch:=omega) only [Jg,XO,↓Xk,wD,↓X2,wA,seval,wE]
  exact Js rfl (Xn Fb rfl rfl rfl) (Xn Fb rfl rfl rfl) ((XC A).sees _) ((XC B).sees _)
 ·obtain ⟨A,B,F,ta,tb,cP,gA,gB,sA,sB,_⟩:=li l hl
  refine ⟨A,B,ta,tb,?_,gA,gB,sA,sB⟩
  refine Fq Tryz.call38 Tryz.func38 7 [] [4,50000006] [] (by simp [X5]) (X1 1000 ?_)
  simp (disch:=omega) only [AS.start,X4,↓Xk,wD,↓X2,wA,seval,wE]
  refine X0 cP rfl ?_
  simp (disch:=omega) only [ir,XO,Qa,List.cons_append,List.nil_append,↓Xk,wD,↓X2,wA,seval,wE]
  exact Js rfl (Xn Fb rfl rfl rfl) (Xn Fb rfl rfl rfl) ((XC A).sees _) ((XC B).sees _)
end
end Go.Ab.N
