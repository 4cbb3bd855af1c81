/- Contracts of functions, for arguments that fit. -/
import Derived.Test.YtefjhgcndhepeaaGreatC13
import Derived.Shelf.Small.Bits
import Derived.Test.YtefjhgcndhepeaaGreatC7
import Derived.Test.YtefjhgcndhepeaaGreatC12
import Derived.Test.YtefjhgcndhepeaaGreatC10
import Derived.Test.YtefjhgcndhepeaaGreatC6
import Derived.Test.YtefjhgcndhepeaaGreatC11
import Derived.Test.YtefjhgcndhepeaaGreatC8
set_option linter.unusedSimpArgs false
set_option linter.unusedVariables false
open Nat renaming reducePow → Y1, reduceLT → Y2, reduceLeDiff → Y3, reduceEqDiff → Y4, reduceAdd → Y5, reduceMul → Y6, reduceSub → Y7, reduceBEq → Y8, reduceDiv → Y9, reduceMod → YA
namespace Go.Ab.N
open Go Go.RowKit Go.Proofs
noncomputable section
set_option maxRecDepth 10000
set_option maxHeartbeats 4000000
open Classical
def Ua (t u:V2):Int:=if QC t.x u.x≠0 then QC t.x u.x else QC t.y u.y
theorem fm (t u:V2):Ua t u<0↔Zk t u:=by
 have h1:=Ke t.x u.x; have h2:=Ke t.y u.y
 have h3:=Sm t.x u.x
 unfold Ua Zk
 by_cases h:QC t.x u.x=0
 ·rw [if_neg (by simp [h])]
  have e:=h3.1 h
  rw [h2]
  constructor
  ·intro hh; exact .inr ⟨e,hh⟩
  ·rintro (hh | hh)
   ·rw [e] at hh; exact absurd hh (Rat.lt_irrefl)
   ·exact hh.2
 ·rw [if_pos h,h1]
  constructor
  ·intro hh; exact .inl hh
  ·rintro (hh | hh)
   ·exact hh
   ·exact absurd (h3.2 hh.1) h
theorem tU (a b:Int):Fn Tryz.prog 200 [.sl 2 2 (Xo [I a,I b]) false] (I (if a≠0 then a else b)):=by
 refine Fn.intro (fn:=Tryz.f200) Tryz.call200 Tryz.func200 rfl mixed 6 [6,7,8] [] [] (by kernel_rfl) (Nat.le_of_ble_eq_true rfl) (by
  intro x hx
  rw [List.mem_singleton.1 hx]
  exact J9 fun j hj=>Xc (l:=[I a,I b]) (by simp [X9]) _) (X0 1000 ?_)
 simp (disch:=omega) only [AS.start,↓Xw,wG,seval]
 refine Hm ?_
 refine X0 1000 ?_
 by_cases h:a=0
 rotate_left
 ·simp (disch:=omega) only [eq_false h,Int.reduceAdd,↓Xw,wG,seval]
  exact Xt (v:=I a) rfl rfl (X9 _) (by rw [if_pos h])
 simp (disch:=omega) only [eq_true h,Int.reduceAdd,↓Xw,wG,seval]
 refine FD ?_
 refine X0 1000 ?_
 by_cases h2:b=0
 rotate_left
 ·simp (disch:=omega) only [eq_false h2,Int.reduceAdd,↓Xw,wG,seval]
  exact Xt (v:=I b) rfl rfl (X9 _) (by rw [if_neg (by simp [h])])
 simp (disch:=omega) only [eq_true h2,Int.reduceAdd,↓Xw,wG,seval]
 refine FD ?_
 refine X0 1000 ?_
 simp (disch:=omega) only [Int.reduceAdd,↓Xw,wG,seval]
 exact Xt (v:=I 0) rfl rfl (X9 _) (by rw [if_neg (by simp [h]),h2])
theorem Rn (t u:V2) (ht:vb t≤vm) (hu:vb u≤vm):Fn Tryz.prog 135 [vA t,vA u] (I (Ua t u)):=by
 have q1:=Qv t; have q2:=Qn t; have q3:=Qv u; have q4:=Qn u
 have c1:=Kw t.x u.x (by unfold rm; unfold vm at *; omega) (by unfold rm; unfold vm at *; omega)
 have c2:=Kw t.y u.y (by unfold rm; unfold vm at *; omega) (by unfold rm; unfold vm at *; omega)
 have c3:=tU (QC t.x u.x) (QC t.y u.y)
 have hc:Ua t u=if QC t.x u.x≠0 then QC t.x u.x else QC t.y u.y:=rfl
 rw [← hc] at c3
 generalize Ua t u=R at *
 refine Fq Tryz.call135 Tryz.func135 5 [] [1,20000002,20000003] [] (by simp [Xm]) (X0 1000 ?_)
 simp (disch:=omega) only [AS.start,vA,vC,↓Xw,wG,seval]
 refine X1 c1 rfl ?_
 simp (disch:=omega) only [↓Xw,wG,seval]
 refine X1 c2 rfl ?_
 simp (disch:=omega) only [↓Xw,wG,seval]
 refine X1 c3 rfl ?_
 simp (disch:=omega) only [↓Xw,wG,seval]
 exact Xt rfl rfl (X9 _) rfl
def bQ (L:List V2) (j:Nat):List V2:=(L.set (j+1) (L.getD j v0)).set j (L.getD (j+1) v0)
def BW:List V2→Nat→List V2
 | L,0=>L
 | L,j+1=>if Zk (L.getD (j+1) v0) (L.getD j v0) then BW (bQ L j) j else L
def B9 (L:List V2):Nat→List V2
 | 0=>L
 | k+1=>BW (B9 L k) (k+1)
theorem Pd (L:List V2) (j:Nat):(bQ L j).length=L.length:=by simp [bQ]
theorem RF:∀ (j:Nat) (L:List V2),(BW L j).length=L.length
 | 0,_=>rfl
 | j+1,L=>by
  unfold BW
  split
  ·rw [RF j,Pd]
  ·rfl
theorem BQ (L:List V2):∀ k,(B9 L k).length=L.length
 | 0=>rfl
 | k+1=>by show (BW (B9 L k) (k+1)).length=_; rw [RF,BQ L k]
theorem Ww {L:List V2} {j:Nat} (h:j+1<L.length) (x:V2) (hx:x∈bQ L j):x∈L:=by
 unfold bQ at hx
 rcases List.mem_or_eq_of_mem_set hx with hx | rfl
 ·rcases List.mem_or_eq_of_mem_set hx with hx | rfl
  ·exact hx
  ·exact QN (by omega)
 ·exact QN h
theorem RG:∀ (j:Nat) (L:List V2),j<L.length→∀ x∈BW L j,x∈L
 | 0,_,_,x,h=>h
 | j+1,L,hj,x,h=>by
  unfold BW at h
  split at h
  ·exact Ww hj x (RG j (bQ L j) (by rw [Pd]; omega) x h)
  ·exact h
theorem M6 (L:List V2):∀ k,k<L.length→∀ x∈B9 L k,x∈L
 | 0,_,x,h=>h
 | k+1,hk,x,h=>M6 L k (by omega) x (RG (k+1) (B9 L k) (by rw [BQ]; exact hk) x h)
theorem sk (l:List V2) (k:Nat) (x:V2) (hk:k<l.length):Ib (Xs vC 8 v0 l) (k*8) (vC x)=Xs vC 8 v0 (l.set k x):=by
 funext j
 rw [T9]
 have e:(l.set k x).getD k v0=x:=by rw [List.getD_eq_getElem?_getD,List.getElem?_set_self hk]; rfl
 have hl:(vC x).length=8:=rfl
 unfold Xs
 by_cases h:k*8≤j∧j<k*8+(vC x).length
 ·rw [if_pos h]
  rw [hl] at h
  rw [show j / 8=k by omega,e,show j % 8=j - k*8 by omega]
 ·rw [if_neg h]
  rw [hl] at h
  have:(l.set k x).getD (j / 8) v0=l.getD (j / 8) v0:=by rw [List.getD_eq_getElem?_getD,List.getElem?_set_ne (by omega),List.getD_eq_getElem?_getD]
  rw [this]
theorem pt {P:Program} {fn:Func} {str hcs:List Nat} {b:Nat} {H:List AO} {s:AS} (hr:fn.results=#[]) (hH:s.h=H):RetE (DI P fn str hcs b (.tup []) H) s :=
 ⟨.tup [],by show Z0 P fn s=_; simp [Z0,hr,J8,A9],rfl,hH⟩
theorem au (o0 o1 o2 o3 o4 o5 o6 o7:AO) (v:Nat) (L:List V2) (hL:∀ x∈L,vb x≤vm) (hn:L.length<1000) :
  HCall Tryz.prog 233 [.osl 8 v 8 0 L.length,I 0,I L.length,.fn 135 []] [o0,o1,o2,o3,o4,o5,o6,o7,.row v (L.length*8) (Xs vC 8 v0 L)] (.tup []) [o0,o1,o2,o3,o4,o5,o6,o7,.row v (L.length*8) (Xs vC 8 v0 (B9 L (L.length - 1)))]:=by
 refine HCall.intro (fn:=Tryz.f233) Tryz.call233 Tryz.func233 rfl mixed 10 [] [4,5008,5013,6,7009,7013] [] (by kernel_rfl) (Nat.le_of_ble_eq_true rfl) (X0 1000 ?_)
 simp (disch:=omega) only [AS.start,↓Xw,wG,seval]
 refine Xg (fun k:Nat=>⟨10,[],[.osl 8 v 8 0 L.length,I 0,I L.length,.fn 135 [],.any,.any,.any,.any,I (k+1:Nat),.any],[],[o0,o1,o2,o3,o4,o5,o6,o7,.row v (L.length*8) (Xs vC 8 v0 (B9 L k))]⟩) (fun k=>k≤L.length - 1) (fun k=>L.length - k) 0 (by omega)
  (Xa rfl (by simp [Xh,I]) (by simp [Xi]) rfl) ?_
 intro k hk next
 by_cases hk2:k+1<L.length
 rotate_left
 ·obtain rfl:k=L.length - 1:=by omega
  refine X0 1000 ?_
  simp (disch:=omega) only [↓Xw,wG,seval]
  exact pt rfl rfl
 have hml:=M6 L k (by omega)
 have hll:=BQ L k
 have nx:=next (k+1)
 rw [show B9 L (k+1)=BW (B9 L k) (k+1) from rfl] at nx
 generalize B9 L k=M at *
 refine X0 1000 ?_
 simp (disch:=omega) only [↓Xw,wG,seval]
 refine Xg (fun p:Nat×List V2=>⟨10,[],[.osl 8 v 8 0 L.length,I 0,I L.length,.fn 135 [],.any,.any,.any,.any,I (k+1:Nat),I p.1],[],[o0,o1,o2,o3,o4,o5,o6,o7,.row v (L.length*8) (Xs vC 8 v0 p.2)]⟩) (fun p=>p.1≤k+1∧p.2.length=L.length∧(∀ x∈p.2,vb x≤vm)∧BW p.2 p.1=BW M (k+1)) (fun p=>p.1) (k+1,M) ⟨by simp,hll,fun x hx=>hL x (hml x hx),rfl⟩
  (Xa rfl (by simp [Xh,I]) (by simp [Xi]) rfl) ?_
 rintro ⟨j,C⟩ ⟨h1,h2,h3,h4⟩ nextj
 replace h1:j≤k+1:=h1
 replace h2:C.length=L.length:=h2
 replace h3:∀ x∈C,vb x≤vm:=h3
 replace h4:BW C j=BW M (k+1):=h4
 match j,h1,h4,nextj with
 | 0,h1,h4,nextj =>
  refine X0 1000 ?_
  simp (disch:=omega) only [↓Xw,wG,seval]
  have h5:C=BW M (k+1):=h4
  rw [← h5] at nx
  exact nx _ (by omega) (by omega) (Xa rfl (by simp [Xh,I]) (by simp [Xi]) rfl)
 | j+1,h1,h4,nextj =>
  have c:=Rn (C.getD (j+1) v0) (C.getD j v0) (h3 _ (QN (by omega))) (h3 _ (QN (by omega)))
  have a1:=K5 vC 8 v0 C (j+1)
  have a2:=Ko vC 8 v0 C (j+1) (by omega)
  have b1:=K5 vC 8 v0 C j
  have b2:=Ko vC 8 v0 C j (by omega)
  have hj1:(((j+1:Nat):Int) - 1).toNat=j:=by omega
  have hneg:=fm (C.getD (j+1) v0) (C.getD j v0)
  by_cases hb:Zk (C.getD (j+1) v0) (C.getD j v0)
  rotate_left
  ·have hlt:=mt hneg.1 hb
   have h5:C=BW M (k+1):=by rw [← h4]; unfold BW; rw [if_neg hb]
   rw [← h5] at nx
   clear h4 h5 hb hneg nextj
   generalize C.getD (j+1) v0=x at *
   generalize C.getD j v0=y at *
   generalize Ua x y=d at *
   refine X0 1000 ?_
   simp (disch:=omega) only [hj1,a1,a2,b1,b2,vC,↓Xw,wG,seval]
   refine X1 c rfl ?_
   simp (disch:=omega) only [eq_false hlt,↓Xw,wG,seval]
   exact nx _ (by omega) (by omega) (Xa rfl (by simp [Xh,I]) (by simp [Xi]) rfl)
  have hlt:=hneg.2 hb
  have e1:=sk C (j+1) (C.getD j v0) (by omega)
  have e2:=sk (C.set (j+1) (C.getD j v0)) j (C.getD (j+1) v0) (by rw [List.length_set]; omega)
  have hsw:(C.set (j+1) (C.getD j v0)).set j (C.getD (j+1) v0)=bQ C j:=rfl
  rw [hsw,← e1] at e2
  have h5:BW (bQ C j) j=BW M (k+1):=by rw [← h4]; exact (if_pos hb).symm
  have nx2:=nextj (j,bQ C j)
  have h6:∀ x∈bQ C j,vb x≤vm:=fun x hx=>h3 x (Ww (by omega) x hx)
  have h7:=Pd C j
  generalize bQ C j=D at *
  clear h4 hb hneg nextj hsw e1
  generalize C.getD (j+1) v0=x at *
  generalize C.getD j v0=y at *
  generalize Ua x y=d at *
  refine X0 1000 ?_
  simp (disch:=omega) only [hj1,a1,a2,b1,b2,vC,↓Xw,wG,seval]
  refine X1 c rfl ?_
  simp (disch:=omega) only [hj1,a1,a2,b1,b2,vC,eq_true hlt,↓Xw,wG,seval]
  exact nx2 _ ⟨by show j≤k+1; omega,by show D.length=_; omega,h6,h5⟩ (by show j<j+1; omega) (Xa rfl (by simp [Xh,I]) (by simp [Xi]) (by rw [← e2]; rfl))
end
end Go.Ab.N
namespace Go.Ab.N
open Go Go.RowKit Go.Proofs
open Go.Shelf
noncomputable section
set_option maxRecDepth 10000
set_option maxHeartbeats 4000000
open Classical
def ve:Go.Shelf.Ren:=⟨fun k=>if k=125 then 199 else if k=128 then 241 else 242,fun t=>if t=46 then 187 else if t=51 then 218 else if t=53 then 197 else t,fun x=>x⟩
theorem tJ:Lays.n125 Tryz.prog ve where
 mixed:=mixed
 f125:=Tryz.func199.trans (congrArg some rfl)
 f128:=Tryz.func241.trans (congrArg some rfl)
 f129:=Tryz.func242.trans (congrArg some rfl)
 t3:=Tryz.underlying3
 a3:=Tryz.isAgg3
 z3:=Tryz.sizeOf3
 v3:=Tryz.zeroValue3
 t4:=Tryz.underlying4
 a4:=Tryz.isAgg4
 z4:=Tryz.sizeOf4
 v4:=Tryz.zeroValue4
 t5:=Tryz.underlying5
 a5:=Tryz.isAgg5
 z5:=Tryz.sizeOf5
 v5:=Tryz.zeroValue5
 t9:=Tryz.underlying9
 a9:=Tryz.isAgg9
 z9:=Tryz.sizeOf9
 v9:=Tryz.zeroValue9
 t46:=Tryz.underlying187
 a46:=Tryz.isAgg187
 z46:=Tryz.sizeOf187
 v46:=Tryz.zeroValue187
 t51:=Tryz.underlying218
 a51:=Tryz.isAgg218
 z51:=Tryz.sizeOf218
 v51:=Tryz.zeroValue218
 t53:=Tryz.underlying197
 a53:=Tryz.isAgg197
 z53:=Tryz.sizeOf197
 v53:=Tryz.zeroValue197
theorem rl (n:Nat) (h:n<1000000):Fn Tryz.prog 199 [.int .u64 n] (I (Lib.bitLen n)):=by
 refine ⟨⟨Tryz.call199,?_⟩,fun a ha=>by rw [List.mem_singleton.1 ha]; exact Js _ _⟩
 rintro w S vs hS ⟨hv1,hv2⟩
 have hx:=hv2 0 (by simp)
 have h3:vs.size=1:=hv1
 have e1:vs=#[vs.getD 0 undef]:=by
  apply Array.ext
  ·simp [h3]
  ·intro j g1 g2
   match j,g1 with
   | 0,_=>simp [Array.getD,h3]
   | j+1,g=>omega
 rw [e1]
 generalize vs.getD 0 undef=x at *
 replace hx:Rep (.bare w S) x (.int .u64 n):=hx
 cases hx
 have key:=Any.bits_Len tJ (n:Int) w (by omega) (by omega)
 refine key.mono ?_
 rintro e w' ⟨rfl,rfl⟩
 rw [Int.toNat_natCast]
 exact ⟨_,S,rfl,.int _ _,hS,Ext.refl _⟩
theorem rL {P:Program} {fn:Func} {str hcs:List Nat} {b:Nat} {H:List AO} {s:AS} (hr:fn.results=#[]) (hH:s.h=H):RetOk (DI P fn str hcs b (.tup []) H) s :=
 ⟨.tup [],by show Z0 P fn s=_; simp [Z0,hr,J8,A9],rfl,hH⟩
theorem ub {o0 o1 o2 o3 o4 o5 o6 o7 o8:AO} (h:∀ o∈[o0,o1,o2,o3,o4,o5,o6,o7],o≠.unborn) (h5:o8≠.unborn) (id:Nat):[o0,o1,o2,o3,o4,o5,o6,o7,o8][id]?≠some .unborn:=by
 intro hh
 have:=List.mem_of_getElem? hh
 rw [show [o0,o1,o2,o3,o4,o5,o6,o7,o8]=[o0,o1,o2,o3,o4,o5,o6,o7] ++ [o8] from rfl,List.mem_append,List.mem_singleton] at this
 rcases this with g | g
 ·exact h _ g rfl
 ·exact h5 g.symm
theorem rB (o0 o1 o2 o3 o4 o5 o6 o7:AO) (hu:∀ o∈[o0,o1,o2,o3,o4,o5,o6,o7],o≠.unborn) (v lim:Nat) (L:List V2) (hL:∀ x∈L,vb x≤vm) (hn:L.length≤12) :
  HCall Tryz.prog 198 [.osl 8 v 8 0 L.length,I 0,I L.length,I lim,.fn 135 []] [o0,o1,o2,o3,o4,o5,o6,o7,.row v (L.length*8) (Xs vC 8 v0 L)] (.tup []) [o0,o1,o2,o3,o4,o5,o6,o7,.row v (L.length*8) (Xs vC 8 v0 (B9 L (L.length - 1)))]:=by
 have c:=au o0 o1 o2 o3 o4 o5 o6 o7 v L hL (by omega)
 refine HCall.intro (fn:=Tryz.f198) Tryz.call198 Tryz.func198 rfl mixed 21 [] [] [4] (by kernel_rfl) (Nat.le_of_ble_eq_true rfl) (X0 1000 ?_)
 simp (disch:=omega) only [AS.start,↓Xw,wG,seval]
 refine Hm ?_
 refine X0 1000 ?_
 simp (disch:=omega) only [↓Xw,wG,seval]
 refine KG rfl c (Za (id:=8) (o:=.row v (L.length*8) (Xs vC 8 v0 L)) rfl (by simp) (by simp)) (ub hu (by simp)) (Q0 _) ?_
 simp (disch:=omega) only [↓Xw,wG,seval]
 exact rL rfl rfl
theorem nV (o0 o1 o2 o3 o4 o5 o6 o7:AO) (hu:∀ o∈[o0,o1,o2,o3,o4,o5,o6,o7],o≠.unborn) (v:Nat) (L:List V2) (hL:∀ x∈L,vb x≤vm) (hn:L.length≤12) :
  HCall Tryz.prog 134 [.osl 8 v 8 0 L.length,.fn 135 []] [o0,o1,o2,o3,o4,o5,o6,o7,.row v (L.length*8) (Xs vC 8 v0 L)] (.tup []) [o0,o1,o2,o3,o4,o5,o6,o7,.row v (L.length*8) (Xs vC 8 v0 (B9 L (L.length - 1)))]:=by
 have c:=rB o0 o1 o2 o3 o4 o5 o6 o7 hu v (Lib.bitLen L.length) L hL hn
 have cl:=rl L.length (by omega)
 have hw:IntKind.u64.wrap (L.length:Int)=L.length:=by rw [IntKind.wrap_u64]; omega
 generalize Lib.bitLen L.length=lim at *
 refine HCall.intro (fn:=Tryz.f134) Tryz.call134 Tryz.func134 rfl mixed 5 [] [] [1] (by kernel_rfl) (Nat.le_of_ble_eq_true rfl) (X0 1000 ?_)
 simp (disch:=omega) only [AS.start,hw,↓Xw,wG,seval]
 refine X1 cl rfl ?_
 simp (disch:=omega) only [↓Xw,wG,seval]
 refine KG rfl c (Za (id:=8) (o:=.row v (L.length*8) (Xs vC 8 v0 L)) rfl (by simp) (by simp)) (ub hu (by simp)) (Q0 _) ?_
 simp (disch:=omega) only [↓Xw,wG,seval]
 exact pt rfl rfl
end
end Go.Ab.N
namespace Go.Ab.N
open Go Go.RowKit Go.Proofs
noncomputable section
set_option maxRecDepth 10000
set_option maxHeartbeats 4000000
open Classical
theorem LU {P:Program} {fn:Func} {str hcs:List Nat} {b:Nat} {r:AV} {H:List AO} {s:AS} {t:Nat} (hr:fn.results=#[.tmp t]) (h1:s.get t=r) (hH:s.h=H):RetOk (DI P fn str hcs b r H) s :=
 ⟨r,by show Z0 P fn s=_; simp [Z0,hr,J8,QU,A9,h1],rfl,hH⟩
theorem PH (o0 o1 o2 o3 o4:AO) (B0:∀ m,5≤m→XK m o0) (B1:∀ m,5≤m→XK m o1) (B2:∀ m,5≤m→XK m o2) (B3:∀ m,5≤m→XK m o3) (B4:∀ m,5≤m→XK m o4) (a b:PV) (f:FV) (hf:AB a.rim.length b.rim.length f) (ha:a.even) (hb:b.even) :
  HCall Tryz.prog 133 [QH a,QH b,Jx f] [o0,o1,o2,o3,o4] (.osl 8 (Qt a b f f.M.toNat).length 8 0 (Qt a b f f.M.toNat).length) [o0,o1,o2,o3,o4,.dead,.dead,.dead,.row (Qt a b f f.M.toNat).length ((Qt a b f f.M.toNat).length*8) (Xs vC 8 v0 (Qt a b f f.M.toNat))]:=by
 have ce:=G0 a b f hf ha.rim hb.rim
 obtain ⟨⟨s1,s2⟩,⟨s3,s4⟩,s5,s6,s7⟩:=hf
 obtain ⟨N,hN⟩:∃ N:Nat,f.M=N:=⟨f.M.toNat,by omega⟩
 have la:=ha.rim; have lb:=hb.rim
 have hNt:f.M.toNat=N:=by rw [hN]; rfl
 rw [hNt]
 obtain ⟨L,hL⟩:∃ L,L=DH a.rim.length b.rim.length f:=⟨_,rfl⟩
 have hlen:L.length=N:=by rw [hL,BC,hN]; rfl
 have hat:∀ k,k<N→L.getD k (0,0)=((xK a.rim.length f k:Int),(yK b.rim.length f k:Int)):=fun k hk=>by rw [hL]; exact EL _ _ _ _ (by omega)
 rw [← hL] at ce
 clear hL
 have ba:XK 9 (.row 0 25 (Xo (XD a)))=True:=eq_true (XH (Xy a))
 have bb:XK 9 (.row 0 25 (Xo (XD b)))=True:=eq_true (XH (Xy b))
 have bf:XK 9 (.row 0 29 (Xo (XJ f)))=True:=eq_true (XH (XM f))
 have bL:JJ 9 (Dw L)=True:=eq_true (X6 (QG _))
 have hvc:∀ a:V2,∀ x∈vC a,Settled x:=fun a=>by simp [vC,X7,X3]
 have br:∀ i l n,XK 9 (.row i n (Xs vC 8 v0 l))=True:=fun i l n=>eq_true fun j _=>X6 (Xc (hvc _) _)
 have q0:XK 9 o0=True:=eq_true (B0 9 (by omega))
 have q1:XK 9 o1=True:=eq_true (B1 9 (by omega))
 have q2:XK 9 o2=True:=eq_true (B2 9 (by omega))
 have q3:XK 9 o3=True:=eq_true (B3 9 (by omega))
 have q4:XK 9 o4=True:=eq_true (B4 9 (by omega))
 refine HCall.intro (fn:=Tryz.f133) Tryz.call133 Tryz.func133 rfl mixed 12 [15,16,17] [] [] (by kernel_rfl) (Nat.le_of_ble_eq_true rfl) (X0 1000 ?_)
 simp only [AS.start,QH,XD,Jx,XJ,↓X2,wF,seval]
 refine X1 ce rfl ?_
 simp only [Xe,hlen,↓X2,wF,seval]
 refine Xg (fun k:Nat=>⟨12,[15,16,17],[.any,.any,.any,.ref 5 0 0,.ref 6 0 0,.ref 7 0 0,.any,.osl 8 (Qt a b f k).length 8 0 (Qt a b f k).length,.any,.any,.any,.any],[(15,Dw L),(16,I N),(17,I k)],[o0,o1,o2,o3,o4,.row 0 25 (Xo (XD a)),.row 0 25 (Xo (XD b)),.row 0 29 (Xo (XJ f)),.row (Qt a b f k).length ((Qt a b f k).length*8) (Xs vC 8 v0 (Qt a b f k))]⟩) (fun k=>k≤N) (fun k=>N - k) 0 (by omega)
  (Sub.trans (Q7 7 8 (Xs vC 8 v0 []) rfl) (Xa rfl (by simp [AS.put,Qt,Xh,I]) (by simp [AS.put,Xi,Xz,Xe,hlen,I]) (by simp [AS.put,Qt,XD,XJ,Xe,Xl,X4,I]))) ?_
 intro k hk next
 have w1:=wj k (by omega)
 have hln:=DA a b f k
 by_cases hk2:k<N
 rotate_left
 ·obtain rfl:k=N:=by omega
  refine Run.sub (s':=⟨12,[15,16,17],[.any,.any,.any,.any,.any,.any,.any,.osl 8 (Qt a b f k).length 8 0 (Qt a b f k).length,.any,.any,.any,.any],[(15,Dw L),(16,I k),(17,I k)],[o0,o1,o2,o3,o4,.dead,.dead,.dead,.row (Qt a b f k).length ((Qt a b f k).length*8) (Xs vC 8 v0 (Qt a b f k))]⟩) ?_
   (Sub.trans (CE 5 rfl (by simp [AO.info])) (Sub.trans (CE 6 rfl (by simp [AO.info])) (Sub.trans (CE 7 rfl (by simp [AO.info])) (Xa rfl (by simp [Xh,I]) (by simp [Xi,Xz,I]) (by simp)))))
  refine X0 1000 ?_
  simp only [Int.lt_irrefl,Nat.lt_irrefl,↓X2,wF,seval]
  exact LU rfl rfl rfl
 have nx:=next (k+1)
 have f1:((k:Int)<N)=True:=eq_true (by omega)
 have f2:(k<N)=True:=eq_true hk2
 have f3:(k*2+2≤N*2)=True:=eq_true (by omega)
 have v1:=iN L k
 rw [hat k hk2] at v1
 have n2:((2:Nat):Int)=2:=rfl
 have t1:(1:Int).toNat=1:=rfl
 have ca:=CV a b (xK a.rim.length f k) (yK b.rim.length f k) la lb ha.near hb.near
 rw [show Qc a.rim b.rim (xK a.rim.length f k) (yK b.rim.length f k)=Do a b f k from rfl] at ca
 have hs:Qt a b f (k+1)=if (Do a b f k).2=true then Qt a b f k ++ [(Do a b f k).1] else Qt a b f k:=rfl
 generalize Do a b f k=X at *
 obtain ⟨t,ok⟩:=X
 refine X0 1000 ?_
 simp only [XD,XJ,Xe,Xl,X4,hlen,w1,f1,f2,f3,v1,n2,t1,Int.toNat_zero,Int.reduceLT,Int.reduceLE,Int.toNat_natCast,↓X2,wF,seval]
 refine X1 ca rfl ?_
 cases ok with
 | false =>
  rw [if_neg (show ¬ ((t,false).2=true) from Bool.false_ne_true)] at hs
  simp only [hs] at nx
  simp only [w1,↓X2,wF,seval]
  exact nx _ (by omega) (by omega) (Xr (m:=9) (show 5≤9 by omega) rfl (by simp [Xh,I]) (by simp [Xi,Xz,Xe,hlen,I]) (by simp [XD,XJ,Xe,Xl,X4,I]) (by simp [Xv]) (by simp [Xv,bL]) (by simp [q0,q1,q2,q3,q4,ba,bb,bf,br]))
 | true =>
  rw [if_pos rfl] at hs
  have hlen2:(Qt a b f (k+1)).length=(Qt a b f k).length+1:=by rw [hs]; simp
  have hap:=XT vC 8 v0 (Qt a b f k) t (by omega)
  rw [← hs] at hap
  simp only [hlen2] at nx
  simp only [w1,↓X2,wF,seval]
  exact ⟨⟨Z7 t,by omega,by omega⟩,nx _ (by omega) (by omega) (Xr (m:=9) (show 5≤9 by omega) rfl (by simp [Xh,I]) (by simp [Xi,Xz,Xe,hlen,I]) (by rw [← hap]; simp [XD,XJ,Xe,Xl,X4,I,vC]) (by simp [Xv]) (by simp [Xv,bL]) (by simp [q0,q1,q2,q3,q4,ba,bb,bf,br]))⟩
theorem Cq {a b c:V2} (h1:Zk a b) (h2:Zk b c):Zk a c:=by unfold Zk at *; grind
theorem Ie (a:V2):¬ Zk a a:=by unfold Zk; grind
theorem H0 {a b:V2} (h:¬ Zk a b) (hn:a≠b):Zk b a:=by
 have:¬ (a.x=b.x∧a.y=b.y):=fun hh=>hn (V2.ext'.2 hh)
 unfold Zk at *
 grind
theorem RI (t:V2):∀ l,l.Pairwise Zk→t∉l→(Du t l).Pairwise Zk
 | [],_,_=>by simp [Du]
 | x :: l,hs,hn=>by
  rw [List.pairwise_cons] at hs
  rw [List.mem_cons,not_or] at hn
  have ih:=RI t l hs.2 hn.2
  unfold Du
  split
  ·rename_i hb
   rw [List.pairwise_cons,List.pairwise_cons]
   refine ⟨fun y hy=>?_,hs⟩
   rcases List.mem_cons.1 hy with rfl | hy
   ·exact hb
   ·exact Cq hb (hs.1 y hy)
  ·rename_i hb
   rw [List.pairwise_cons]
   refine ⟨fun y hy=>?_,ih⟩
   rcases (Lt t y l).1 hy with rfl | hy
   ·exact H0 hb hn.1
   ·exact hs.1 y hy
theorem Mf (a b:PV) (f:FV):∀ n,(Ja a b f n).Pairwise Zk
 | 0=>List.Pairwise.nil
 | n+1=>by
  have ih:=Mf a b f n
  unfold Ja
  split
  ·unfold TF
   split
   ·exact ih
   ·rename_i h
    exact RI _ _ ih h
  ·exact ih
theorem Ws:∀ (l m:List V2),l.Pairwise Zk→m.Pairwise Zk→(∀ x,x∈l↔x∈m)→l=m
 | [],[],_,_,_=>rfl
 | [],b :: m,_,_,h=>absurd ((h b).2 (List.mem_cons_self ..)) (List.not_mem_nil)
 | a :: l,[],_,_,h=>absurd ((h a).1 (List.mem_cons_self ..)) (List.not_mem_nil)
 | a :: l,b :: m,h1,h2,h=>by
  rw [List.pairwise_cons] at h1 h2
  have e:a=b:=by
   rcases List.mem_cons.1 ((h a).1 (List.mem_cons_self ..)) with e | ha
   ·exact e
   rcases List.mem_cons.1 ((h b).2 (List.mem_cons_self ..)) with e | hb
   ·exact e.symm
   ·exact absurd (Cq (h1.1 b hb) (h2.1 a ha)) (Ie a)
  subst e
  refine congrArg (a :: ·) (Ws l m h1.2 h2.2 fun x=>⟨fun hx=>?_,fun hx=>?_⟩)
  ·rcases List.mem_cons.1 ((h x).1 (List.mem_cons_of_mem _ hx)) with rfl | hy
   ·exact absurd (h1.1 x hx) (Ie x)
   ·exact hy
  ·rcases List.mem_cons.1 ((h x).2 (List.mem_cons_of_mem _ hx)) with rfl | hy
   ·exact absurd (h2.1 x hx) (Ie x)
   ·exact hy
def I6 (x:V2):List V2→List V2
 | []=>[x]
 | y :: Q=>if Zk x y then y :: I6 x Q else x :: y :: Q
theorem Lu (x z:V2):∀ Q,z∈I6 x Q↔z=x∨z∈Q
 | []=>by simp [I6]
 | y :: Q=>by
  have ih:=Lu x z Q
  unfold I6
  split
  ·rw [List.mem_cons,ih,List.mem_cons]
   constructor
   ·rintro (h | h | h)
    ·exact .inr (.inl h)
    ·exact .inl h
    ·exact .inr (.inr h)
   ·rintro (h | h | h)
    ·exact .inr (.inl h)
    ·exact .inl h
    ·exact .inr (.inr h)
  ·simp
theorem RK (x:V2):∀ Q,(I6 x Q).length=Q.length+1
 | []=>rfl
 | y :: Q=>by
  have ih:=RK x Q
  unfold I6
  split
  ·simp [ih]
  ·simp
def oX (Q:List V2):Prop:=Q.Pairwise fun a b=>¬ Zk a b
theorem RJ (x:V2):∀ Q,oX Q→oX (I6 x Q)
 | [],_=>by simp [oX,I6]
 | y :: Q,h=>by
  have h':=h
  unfold oX at h'
  rw [List.pairwise_cons] at h'
  have ih:=RJ x Q h'.2
  unfold I6
  split
  ·rename_i hb
   unfold oX
   rw [List.pairwise_cons]
   refine ⟨fun z hz=>?_,ih⟩
   rcases (Lu x z Q).1 hz with rfl | hz
   ·exact fun hh=>Ie _ (Cq hb hh)
   ·exact h'.1 z hz
  ·rename_i hb
   unfold oX
   rw [List.pairwise_cons]
   refine ⟨fun z hz=>?_,h⟩
   rcases List.mem_cons.1 hz with rfl | hz2
   ·exact hb
   ·intro hh
    have h5:=h'.1 z hz2
    by_cases e:x=y
    ·rw [e] at hh; exact h5 hh
    ·exact h5 (Cq (H0 hb e) hh)
theorem Rw (A R:List V2) (x:V2):(A ++ x :: R).getD A.length v0=x:=by
 rw [List.getD_eq_getElem?_getD,List.getElem?_append_right (Nat.le_refl _),Nat.sub_self]; rfl
theorem Nn (A R:List V2) (x y:V2):(A ++ y :: x :: R).getD (A.length+1) v0=x:=by
 rw [List.getD_eq_getElem?_getD,List.getElem?_append_right (by omega),Nat.add_sub_cancel_left]; rfl
theorem nY (A R:List V2) (x y:V2):bQ (A ++ y :: x :: R) A.length=A ++ x :: y :: R:=by
 unfold bQ
 rw [Rw,Nn,List.set_append_right _ _ (by omega),Nat.add_sub_cancel_left,List.set_append_right _ _ (Nat.le_refl _),Nat.sub_self]; rfl
theorem Ls (x:V2):∀ (Q R:List V2),BW (Q.reverse ++ x :: R) Q.length=(I6 x Q).reverse ++ R
 | [],R=>rfl
 | y :: Q,R=>by
  have ih:=Ls x Q (y :: R)
  have hl:Q.reverse.length=Q.length:=List.length_reverse
  have e:(y :: Q).reverse ++ x :: R=Q.reverse ++ y :: x :: R:=by simp
  rw [e]
  show BW (Q.reverse ++ y :: x :: R) (Q.length+1)=_
  unfold BW I6
  rw [← hl,Nn,Rw,nY,hl,ih]
  split
  ·simp
  ·simp
theorem M7 (L:List V2):∀ k,k<L.length→∃ Q R,B9 L k=Q.reverse ++ R∧Q.length=k+1∧oX Q∧∀ x,x∈B9 L k↔x∈L
 | 0,h=>by
  match L,h with
  | x :: R,_=>exact ⟨[x],R,rfl,rfl,by simp [oX],fun _=>Iff.rfl⟩
 | k+1,h=>by
  obtain ⟨Q,R,h1,h2,h3,h4⟩:=M7 L k (by omega)
  have hl:=BQ L k
  match R,h1 with
  | [],h1=>rw [h1] at hl; simp at hl; omega
  | x :: R,h1 =>
   refine ⟨I6 x Q,R,?_,by rw [RK,h2],RJ x Q h3,fun z=>?_⟩
   ·show BW (B9 L k) (k+1)=_
    rw [h1,← h2]; exact Ls x Q R
   ·rw [← h4 z]
    show z∈BW (B9 L k) (k+1)↔_
    rw [h1,← h2,Ls x Q R]
    simp only [List.mem_append,List.mem_reverse,List.mem_cons,Lu]
    constructor
    ·rintro ((h | h) | h)
     ·exact .inr (.inl h)
     ·exact .inl h
     ·exact .inr (.inr h)
    ·rintro (h | h | h)
     ·exact .inl (.inr h)
     ·exact .inl (.inl h)
     ·exact .inr h
def Be (L:List V2):Nat→List V2
 | 0=>L.take 1
 | k+1=>if L.getD (k+1) v0=L.getD k v0 then Be L k else Be L k ++ [L.getD (k+1) v0]
theorem VC (L:List V2):∀ k,(Be L k).length≤k+1
 | 0=>by simp [Be]; omega
 | k+1=>by
  have ih:=VC L k
  unfold Be
  split
  ·omega
  ·simp; omega
theorem fj (L:List V2) (hs:L.Pairwise fun a b=>¬ Zk b a):∀ k,k<L.length→(Be L k).Pairwise Zk∧(∀ x,x∈Be L k↔x∈L.take (k+1))∧∀ y∈Be L k,y=L.getD k v0∨Zk y (L.getD k v0)
 | 0,h=>by
  match L,h with
  | x :: R,_=>exact ⟨by simp [Be],fun _=>by simp [Be],fun y hy=>.inl (by simpa [Be] using hy)⟩
 | k+1,h=>by
  obtain ⟨h1,h2,h3⟩:=fj L hs k (by omega)
  have ht:=Q5 L v0 (k+1) h
  by_cases e:L.getD (k+1) v0=L.getD k v0
  ·have ec:Be L (k+1)=Be L k:=if_pos e
   rw [ec]
   refine ⟨h1,fun x=>?_,fun y hy=>by rw [e]; exact h3 y hy⟩
   rw [h2 x,ht,List.mem_append,List.mem_singleton]
   refine ⟨fun hx=>.inl hx,fun hx=>?_⟩
   rcases hx with hx | rfl
   ·exact hx
   ·rw [e,Q5 L v0 k (by omega)]
    simp
  ·have ec:Be L (k+1)=Be L k ++ [L.getD (k+1) v0]:=if_neg e
   have hb:Zk (L.getD k v0) (L.getD (k+1) v0):=by
    refine H0 (fun hh=>?_) e
    have:=(List.pairwise_iff_getElem.1 hs) k (k+1) (by omega) h (by omega)
    rw [List.getD_eq_getElem?_getD,List.getD_eq_getElem?_getD,List.getElem?_eq_getElem h,List.getElem?_eq_getElem (show k<L.length by omega)] at hh
    exact this hh
   have hall:∀ y∈Be L k,Zk y (L.getD (k+1) v0):=fun y hy=>by
    rcases h3 y hy with rfl | g
    ·exact hb
    ·exact Cq g hb
   rw [ec]
   refine ⟨?_,fun x=>?_,fun y hy=>?_⟩
   ·rw [List.pairwise_append]
    exact ⟨h1,List.pairwise_singleton _ _,fun y hy z hz=>by rw [List.mem_singleton.1 hz]; exact hall y hy⟩
   ·rw [List.mem_append,h2 x,ht,List.mem_append]
   ·rcases List.mem_append.1 hy with hy | hy
    ·exact .inr (hall y hy)
    ·exact .inl (List.mem_singleton.1 hy)
theorem PF (a b:PV) (f:FV) (t:V2) (n:Nat):t∈Qt a b f n↔∃ k,k<n∧(Do a b f k).2=true∧(Do a b f k).1=t:=by
 rw [← IM,List.any_eq_true]
 constructor
 ·intro h; exact ⟨t,h,by simp⟩
 ·rintro ⟨x,hx,e⟩
  rw [of_decide_eq_true e] at hx
  exact hx
theorem Yl (a b:PV) (f:FV) (n:Nat) (h:0<(Qt a b f n).length):Be (B9 (Qt a b f n) ((Qt a b f n).length - 1)) ((Qt a b f n).length - 1)=Ja a b f n:=by
 obtain ⟨Q,R,h1,h2,h3,h4⟩:=M7 (Qt a b f n) ((Qt a b f n).length - 1) (by omega)
 have hl:=BQ (Qt a b f n) ((Qt a b f n).length - 1)
 have hR:R=[]:=by
  rw [h1] at hl
  rw [List.length_append,List.length_reverse,h2] at hl
  exact List.eq_nil_of_length_eq_zero (by omega)
 subst hR
 rw [List.append_nil] at h1
 have hs:(B9 (Qt a b f n) ((Qt a b f n).length - 1)).Pairwise fun a b=>¬ Zk b a:=by
  rw [h1,List.pairwise_reverse]; exact h3
 obtain ⟨c1,c2,_⟩:=fj _ hs ((Qt a b f n).length - 1) (by omega)
 refine Ws _ _ c1 (Mf a b f n) fun x=>?_
 rw [c2 x,List.take_of_length_le (by omega),h4 x,PF,AE]
theorem oP:WJ Tryz.prog 148=true:=by kernel_rfl
theorem L6 (L:List V2):∀ k,k<L.length→(∀ j,j<k→L.getD (j+1) v0≠L.getD j v0)→Be L k=L.take (k+1)
 | 0,h,_=>rfl
 | k+1,h,hn=>by
  unfold Be
  rw [if_neg (hn k (by omega)),L6 L k (by omega) (fun j hj=>hn j (by omega)),← Q5 L v0 (k+1) h]
theorem fl (L:List V2) (k:Nat):Be L (k+1)=if L.getD (k+1) v0=L.getD k v0 then Be L k else Be L k ++ [L.getD (k+1) v0]:=rfl
theorem Pf (C D:List V2) (x:V2) (h:D.length<C.length) (ht:C.take D.length=D):(C.set D.length x).take (D.length+1)=D ++ [x]:=by
 rw [Q5 _ v0 _ (by rw [List.length_set]; exact h),List.take_set_of_le (Nat.le_refl _),ht,List.getD_eq_getElem?_getD,List.getElem?_set_self h]; rfl
theorem Uc (o0 o1 o2 o3 o4 o5 o6 o7:AO) (v:Nat) (L:List V2) (hL:∀ x∈L,vb x≤vm) (hn:L.length<1000) :
  HCall Tryz.prog 136 [.osl 8 v 8 0 L.length,.fn 67 []] [o0,o1,o2,o3,o4,o5,o6,o7,.row v (L.length*8) (Xs vC 8 v0 L)]
   (.osl 8 v 8 0 (Be L (L.length - 1)).length) [o0,o1,o2,o3,o4,o5,o6,o7,.row v ((Be L (L.length - 1)).length*8) (Xs vC 8 v0 (Be L (L.length - 1)))]:=by
 have hat:∀ i,i<L.length→vb (L.getD i v0)≤vm:=fun i hi=>hL _ (QN hi)
 refine HCall.intro (fn:=Tryz.f136) Tryz.call136 Tryz.func136 rfl mixed 8 [] [6,7004,7009,11,12004,12009] [] (by kernel_rfl) (Nat.le_of_ble_eq_true rfl) (X0 1000 ?_)
 by_cases h2:2≤L.length
 rotate_left
 ·have e:Be L (L.length - 1)=L:=by rw [show L.length - 1=0 by omega]; show L.take 1=L; exact List.take_of_length_le (by omega)
  rw [e]
  simp (disch:=omega) only [AS.start,↓Xw,wG,seval]
  exact LU rfl rfl rfl
 simp (disch:=omega) only [AS.start,↓Xw,wG,seval]
 refine Xg (fun k:Nat=>⟨8,[],[.osl 8 v 8 0 L.length,.fn 67 [],.any,.any,.any,I (k+1:Nat),.any,.any],[],[o0,o1,o2,o3,o4,o5,o6,o7,.row v (L.length*8) (Xs vC 8 v0 L)]⟩) (fun k=>k+1≤L.length∧∀ j,j<k→L.getD (j+1) v0≠L.getD j v0) (fun k=>L.length - k) 0 ⟨by omega,by omega⟩
  (Xa rfl (by simp [Xh,I]) (by simp [Xi]) rfl) ?_
 rintro k ⟨hk,hne⟩ next
 by_cases hk2:k+1<L.length
 rotate_left
 ·have e:Be L (L.length - 1)=L:=by
   rw [L6 L (L.length - 1) (by omega) (fun j hj=>hne j (by omega))]; exact List.take_of_length_le (by omega)
  rw [e]
  refine X0 1000 ?_
  simp (disch:=omega) only [↓Xw,wG,seval]
  exact LU rfl rfl rfl
 have c:=AP (L.getD (k+1) v0) (L.getD k v0) (hat _ hk2) (hat _ (by omega))
 have a1:=K5 vC 8 v0 L (k+1)
 have a2:=Ko vC 8 v0 L (k+1) (by omega)
 have b1:=K5 vC 8 v0 L k
 have b2:=Ko vC 8 v0 L k (by omega)
 have hj1:(((k+1:Nat):Int) - 1).toNat=k:=by omega
 by_cases he:L.getD (k+1) v0=L.getD k v0
 rotate_left
 ·have nx:=next (k+1)
  rw [decide_eq_false he] at c
  have hne2:∀ j,j<k+1→L.getD (j+1) v0≠L.getD j v0:=fun j hj=>by
   by_cases e:j=k
   ·rw [e]; exact he
   ·exact hne j (by omega)
  generalize L.getD (k+1) v0=x at *
  generalize L.getD k v0=y at *
  refine X0 1000 ?_
  simp (disch:=omega) only [hj1,a1,a2,b1,b2,vC,↓Xw,wG,seval]
  refine X1 c rfl ?_
  simp (disch:=omega) only [↓Xw,wG,seval]
  exact nx _ ⟨by omega,hne2⟩ (by omega) (Xa rfl (by simp [Xh,I]) (by simp [Xi]) rfl)
 rw [decide_eq_true he] at c
 have hcm:Be L k=L.take (k+1):=L6 L k (by omega) hne
 have hcm2:Be L (k+1)=L.take (k+1):=by rw [fl,if_pos he,hcm]
 clear next he
 refine X0 1000 ?_
 generalize hx:L.getD (k+1) v0=x at a1 a2 c
 generalize hy:L.getD k v0=y at b1 b2 c
 simp (disch:=omega) only [hj1,a1,a2,b1,b2,vC,↓Xw,wG,seval]
 refine X1 c rfl ?_
 simp (disch:=omega) only [↓Xw,wG,seval]
 refine Xg (fun p:Nat×List V2=>⟨8,[],[.osl 8 v 8 0 L.length,.fn 67 [],.any,.any,.any,I (Be L (k+1+p.1)).length,.osl 8 v 8 ((k+1)*8) (L.length - (k+1)),I (p.1+1:Nat)],[],[o0,o1,o2,o3,o4,o5,o6,o7,.row v (L.length*8) (Xs vC 8 v0 p.2)]⟩)
  (fun p=>k+1+p.1<L.length∧p.2.length=L.length∧p.2.take (Be L (k+1+p.1)).length=Be L (k+1+p.1)∧(Be L (k+1+p.1)).length≤k+1+p.1∧∀ i,k+1+p.1≤i→i<L.length→p.2.getD i v0=L.getD i v0) (fun p=>L.length - p.1) (0,L)
  ⟨by show k+1+0<L.length; omega,rfl,by show L.take (Be L (k+1)).length=Be L (k+1); rw [hcm2,List.length_take,Nat.min_eq_left (by omega)],by show (Be L (k+1)).length≤k+1; rw [hcm2,List.length_take]; omega,fun i _ _=>rfl⟩
  (Xa rfl (by simp [Xh,hcm2,I]; omega) (by simp [Xi]) rfl) ?_
 clear hcm hcm2 a1 a2 b1 b2 c hx hy
 rintro ⟨q,C⟩ ⟨g1,g2,g3,g4,g5⟩ next
 replace g1:k+1+q<L.length:=g1
 replace g2:C.length=L.length:=g2
 replace g3:C.take (Be L (k+1+q)).length=Be L (k+1+q):=g3
 replace g4:(Be L (k+1+q)).length≤k+1+q:=g4
 replace g5:∀ i,k+1+q≤i→i<L.length→C.getD i v0=L.getD i v0:=g5
 by_cases hq:k+1+q+1<L.length
 rotate_left
 ·have e:k+1+q=L.length - 1:=by omega
  rw [e] at g3 g4
  clear next g5
  simp only [e]
  generalize Be L (L.length - 1)=D at *
  refine X0 25 ?_
  simp (disch:=omega) only [oP,↓Xw,wG,seval]
  have hgd:∀ i,i<D.length→C.getD i v0=D.getD i v0:=fun i hi=>by
   have:(C.take D.length)[i]?=C[i]?:=by rw [List.getElem?_take,if_pos hi]
   rw [List.getD_eq_getElem?_getD,List.getD_eq_getElem?_getD,← this,g3]
  refine Run.sub (s':=⟨8,[],[.osl 8 v 8 0 L.length,.any,.any,.any,.any,I D.length,.any,.any],[],[o0,o1,o2,o3,o4,o5,o6,o7,.row v (D.length*8) (Xs vC 8 v0 D)]⟩) ?_ (Sub.trans (Qr 8 (D.length*8) (Xs vC 8 v0 D) rfl (by omega) (fun j hj=>by
   unfold MU Xs
   rw [if_neg (by omega),hgd (j / 8) (by omega)])) (Xa rfl (by simp [Xh,I]) (by simp [Xi]) (by simp)))
  refine X0 1000 ?_
  simp (disch:=omega) only [↓Xw,wG,seval]
  exact LU rfl rfl rfl
 have s1:Be L (k+1+(q+1))=if L.getD (k+1+q+1) v0=L.getD (k+1+q) v0 then Be L (k+1+q) else Be L (k+1+q) ++ [L.getD (k+1+q+1) v0]:=rfl
 have c:=AP (L.getD (k+1+q+1) v0) (L.getD (k+1+q) v0) (hat _ hq) (hat _ g1)
 have a1:∀ r,r<8→Xs vC 8 v0 C ((k+1)*8+(q+1)*8+r)=(vC (L.getD (k+1+q+1) v0)).getD r .any:=fun r hr=>by
  rw [show (k+1)*8+(q+1)*8+r=(k+1+q+1)*8+r by omega,K5 _ _ _ _ _ _ hr,g5 _ (by omega) hq]
 have a2:Xs vC 8 v0 C ((k+1)*8+(q+1)*8)=(vC (L.getD (k+1+q+1) v0)).getD 0 .any:=a1 0 (by omega)
 have b1:∀ r,r<8→Xs vC 8 v0 C ((k+1)*8+q*8+r)=(vC (L.getD (k+1+q) v0)).getD r .any:=fun r hr=>by
  rw [show (k+1)*8+q*8+r=(k+1+q)*8+r by omega,K5 _ _ _ _ _ _ hr,g5 _ (by omega) g1]
 have b2:Xs vC 8 v0 C ((k+1)*8+q*8)=(vC (L.getD (k+1+q) v0)).getD 0 .any:=b1 0 (by omega)
 have hj2:(((q+1:Nat):Int) - 1).toNat=q:=by omega
 by_cases he:L.getD (k+1+q+1) v0=L.getD (k+1+q) v0
 ·rw [if_pos he] at s1
  rw [decide_eq_true he] at c
  have nx:=next (q+1,C)
  simp only [s1] at nx
  clear next he s1
  generalize L.getD (k+1+q+1) v0=x at *
  generalize L.getD (k+1+q) v0=y at *
  generalize Be L (k+1+q)=D at *
  refine X0 1000 ?_
  simp (disch:=omega) only [hj2,a1,a2,b1,b2,vC,↓Xw,wG,seval]
  refine X1 c rfl ?_
  simp (disch:=omega) only [↓Xw,wG,seval]
  exact nx _ ⟨by omega,g2,g3,by omega,fun i h1 h2=>g5 i (by omega) h2⟩ (by omega) (Xa rfl (by simp [Xh,I]) (by simp [Xi]) rfl)
 rw [if_neg he] at s1
 rw [decide_eq_false he] at c
 have hset:=Pf C (Be L (k+1+q)) (L.getD (k+1+q+1) v0) (by omega) g3
 have e1:=sk C (Be L (k+1+q)).length (L.getD (k+1+q+1) v0) (by omega)
 have nx:=next (q+1,C.set (Be L (k+1+q)).length (L.getD (k+1+q+1) v0))
 simp only [s1] at nx
 have hgd:∀ i,k+1+(q+1)≤i→i<L.length→(C.set (Be L (k+1+q)).length (L.getD (k+1+q+1) v0)).getD i v0=L.getD i v0:=fun i h1 h2=>by
  rw [List.getD_eq_getElem?_getD,List.getElem?_set_ne (by omega),← List.getD_eq_getElem?_getD]; exact g5 i (by omega) h2
 clear next he s1 g5
 generalize L.getD (k+1+q+1) v0=x at *
 generalize L.getD (k+1+q) v0=y at *
 generalize Be L (k+1+q)=D at *
 refine X0 1000 ?_
 simp (disch:=omega) only [hj2,a1,a2,b1,b2,vC,↓Xw,wG,seval]
 refine X1 c rfl ?_
 simp (disch:=omega) only [hj2,a1,a2,b1,b2,vC,↓Xw,wG,seval]
 exact nx _ ⟨by omega,by rw [List.length_set]; exact g2,by rw [List.length_append,List.length_singleton]; exact hset,by rw [List.length_append,List.length_singleton]; omega,hgd⟩ (by omega) (Xa rfl (by simp [Xh,I]) (by simp [Xi]) (by rw [← e1]; rfl))
def Zc (p:PV):AV:=.ptr 25 (Xo (XD p)) 0
theorem QT (p:PV):Zc p=.ptr 25 (Xo (XD p)) 0:=nrfl rfl
theorem K3 (p:PV):Settled (Zc p):=J2 fun j hj=>Xc (Xy p) j
theorem Pb (a b:PV):Fn Tryz.prog 131 [QH a,QH b] (.fn 197 [Zc a,Zc b]):=by
 refine Fq Tryz.call131 Tryz.func131 5 [] [] [] (by simp [Xx]) (X0 1000 ?_)
 simp (disch:=omega) only [AS.start,QH,XD,↓Xw,wG,seval]
 refine Bl rfl (Ca ⟨Z2 (.inl rfl) (by omega) fun j hj=>?_,Z2 (.inl rfl) (by omega) fun j hj=>?_,trivial⟩)
 ·exact (Xc (Xy a) j).sees _
 ·exact (Xc (Xy b) j).sees _
theorem HU (f:Nat→AV) (t:Bool):Settled (.sl 0 0 f t):=J9 fun j hj=>absurd hj (Nat.not_lt_zero j)
def u8 (i j k:Nat):List AV:=[I 0,I 1,I i,I j,I k] ++ (XQ ++ (XQ ++ XQ))
theorem SS (i j k:Nat):∀ x∈u8 i j k,Settled x:=by simp [u8,XQ,X9,X3,HU]
theorem Lz (g:Nat→List FV) (h:∀ k,(g k).length≤(g (k+1)).length) {k k':Nat} (hk:k≤k'):(g k).length≤(g k').length:=by
 induction hk with
 | refl=>exact Nat.le_refl _
 | step _ ih=>exact Nat.le_trans ih (h _)
theorem nu (a b:PV) (e:Rat) {i j k:Nat} (hi:i<a.rim.length) (hj:j<b.rim.length) (hk:k≤min a.rim.length b.rim.length - 1):(JF a b e i ++ JT a b e i j ++ Kj a b e i j k).length≤(Bh a b e).length:=by
 have h1:=Lz (Kj a b e i j) (fun k=>by show _≤(Kj a b e i j k ++ _).length; simp) hk
 have h2:=Lz (JT a b e i) (fun k=>by show _≤(JT a b e i k ++ _).length; simp) (show j+1≤b.rim.length by omega)
 have h3:=Lz (JF a b e) (fun k=>by show _≤(JF a b e k ++ _).length; simp) (show i+1≤a.rim.length by omega)
 have e2:(JT a b e i (j+1)).length=(JT a b e i j).length+(Kj a b e i j (min a.rim.length b.rim.length - 1)).length:=by show (JT a b e i j ++ _).length=_; rw [List.length_append]
 have e3:(JF a b e (i+1)).length=(JF a b e i).length+(JT a b e i b.rim.length).length:=by show (JF a b e i ++ _).length=_; rw [List.length_append]
 have e4:(Bh a b e).length=(JF a b e a.rim.length).length:=rfl
 rw [List.length_append,List.length_append]
 omega
theorem M9 (a b:PV) (e:Rat) (t:Tok) (m:Nat) (Hs:List FV→List AO) (la:a.rim.length≤1000) (lb:b.rim.length≤1000) (ha:0<a.rim.length) (hb:0<b.rim.length) (hHs:∀ D,Pn m (Hs D)) (hce:t.ce.H.length≤m)
  (hy:∀ i j k D,i<a.rim.length→j<b.rim.length→k+1<min a.rim.length b.rim.length→D.length≤(Bh a b e).length→YCall Tryz.prog t [.agg (u8 i j (k+1))] (Hs D) (.bool true) (Hs (D ++ Dk a b e i j (k+1)))) :
  ICall Tryz.prog t 197 [.yld t.l,Zc a,Zc b] (Hs []) (Hs (Bh a b e)):=by
 refine ICall.intro (fn:=Tryz.f197) Tryz.call197 Tryz.func197 rfl mixed 9 [15,16,19,20] [] [] (by kernel_rfl) (Nat.le_of_ble_eq_true rfl) (by rw [(hHs []).1]; exact hce) (by rw [(hHs []).1]; exact fun o ho=>((hHs _).2 o ho).1) (X0 1000 ?_)
 simp (disch:=omega) only [AS.start,QT,XD,Xe,↓Xw,wG,seval]
 refine Xg (fun i:Nat=>⟨9,[15,16,19,20],[.yld t.l,Zc a,Zc b,.any,I a.rim.length,I b.rim.length,.any,.any,.any],[(15,I a.rim.length),(16,I i)],Hs (JF a b e i)⟩) (fun i=>i≤a.rim.length) (fun i=>a.rim.length - i) 0 (by omega)
  (Xa rfl (by simp [Xh,QT,XD,Xe,Xl,X4,I]) (by simp [Xi,Xz,I]) (by simp [JF])) ?_
 intro i hi next
 by_cases hi2:i<a.rim.length
 rotate_left
 ·obtain rfl:i=a.rim.length:=by omega
  refine X0 1000 ?_
  simp (disch:=omega) only [QT,↓Xw,wG,seval]
  exact rM rfl (by show (Hs _).take (Hs []).length=_; rw [(hHs []).1,← (hHs (JF a b e a.rim.length)).1,List.take_length]; rfl)
 refine X0 1000 ?_
 simp (disch:=omega) only [QT,↓Xw,wG,seval]
 refine Xg (fun j:Nat=>⟨9,[15,16,19,20],[.yld t.l,Zc a,Zc b,.any,I a.rim.length,I b.rim.length,I i,.any,.any],[(19,I b.rim.length),(20,I j),(15,I a.rim.length),(16,I i)],Hs (JF a b e i ++ JT a b e i j)⟩) (fun j=>j≤b.rim.length) (fun j=>b.rim.length - j) 0 (by omega)
  (Xa rfl (by simp [Xh,QT,I]) (by simp [Xi,Xz,I]) (by simp [JT])) ?_
 intro j hj next2
 by_cases hj2:j<b.rim.length
 rotate_left
 ·obtain rfl:j=b.rim.length:=by omega
  refine X0 1000 ?_
  simp (disch:=omega) only [QT,↓Xw,wG,seval]
  exact next (i+1) _ (by omega) (by omega) (Xa rfl (by simp [Xh,QT,I]) (by simp [Xi,Xz,I]) (by simp [JF]))
 clear next
 have nx2:=next2 (j+1)
 rw [show JT a b e i (j+1)=JT a b e i j ++ Kj a b e i j (min a.rim.length b.rim.length - 1) from rfl,← List.append_assoc] at nx2
 have hpre:=fun k hk=>nu a b e (k:=k) hi2 hj2 hk
 generalize JF a b e i ++ JT a b e i j=D at *
 clear next2
 refine X0 1000 ?_
 simp (disch:=omega) only [QT,↓Xw,wG,seval]
 refine Xg (fun k:Nat=>⟨9,[15,16,19,20],[.yld t.l,Zc a,Zc b,.any,I a.rim.length,I b.rim.length,I i,I j,I (k+1:Nat)],[(19,I b.rim.length),(20,I j),(15,I a.rim.length),(16,I i)],Hs (D ++ Kj a b e i j k)⟩) (fun k=>k≤min a.rim.length b.rim.length - 1) (fun k=>min a.rim.length b.rim.length - k) 0 (by omega)
  (Xa rfl (by simp [Xh,QT,I]) (by simp [Xi,Xz,I]) (by simp [Kj])) ?_
 intro k hk next3
 by_cases hk2:k+1<min a.rim.length b.rim.length
 rotate_left
 ·obtain rfl:k=min a.rim.length b.rim.length - 1:=by omega
  refine X0 1000 ?_
  simp (disch:=omega) only [QT,↓Xw,wG,seval]
  exact nx2 _ (by omega) (by omega) (Xa rfl (by simp [Xh,QT,I]) (by simp [Xi,Xz,I]) (by simp))
 have nx3:=next3 (k+1)
 rw [show Kj a b e i j (k+1)=Kj a b e i j k ++ Dk a b e i j (k+1) from rfl,← List.append_assoc] at nx3
 have hE:=hpre k (by omega)
 clear hpre
 generalize D ++ Kj a b e i j k=E at *
 obtain ⟨q1,q2⟩:=hHs E
 obtain ⟨q3,q4⟩:=hHs (E ++ Dk a b e i j (k+1))
 refine X0 1000 ?_
 simp (disch:=omega) only [QT,↓Xw,wG,seval]
 refine CL (t:=t) (H1:=Hs E) (H1':=Hs (E ++ Dk a b e i j (k+1))) (rest:=[]) rfl rfl (List.mem_singleton.2 rfl) (hy i j k E hi2 hj2 hk2 hE) (List.append_nil _).symm (q3.trans q1.symm) (by rw [q1]; exact hce) ?_ (by rw [q1]; exact fun o ho=>(q2 o ho).1) (fun o ho=>(q2 o ho).2.1) (fun o ho=>(q4 o ho).2.1) (QZ (fun o ho=>(q2 o ho).2.2) (fun o ho=>(q4 o ho).2.2)) ⟨?_,trivial⟩ ?_
 ·intro x hx
  rw [List.mem_singleton.1 hx]
  exact X6 (Qm (SS _ _ _))
 ·exact Weak.rfl' _
 simp (disch:=omega) only [QT,↓Xw,wG,seval]
 exact nx3 _ (by omega) (by omega) (Xa rfl (by simp [Xh,QT,I]) (by simp [Xi,Xz,I]) (by simp))
def HD (p:FV→Bool) (s:List FV):Int:=if s.any p=true then (s.findIdx p:Nat) else -1
theorem Lo {s:List FV} {j:Nat} (h:j<s.length):s.getD j Zx∈s:=by
 rw [List.getD_eq_getElem?_getD,List.getElem?_eq_getElem h]; exact List.getElem_mem h
theorem ap {p:FV→Bool} {s:List FV} {j:Nat} (hj:j<s.length) (h:p (s.getD j Zx)=true) (hno:∀ i,i<j→p (s.getD i Zx)=false):HD p s=j:=by
 have at_:∀ i (hi:i<s.length),s.getD i Zx=s[i]:=fun i hi=>by rw [List.getD_eq_getElem?_getD,List.getElem?_eq_getElem hi]; rfl
 have e:s.findIdx p=j:=by
  rw [List.findIdx_eq hj]
  exact ⟨by rw [← at_ j hj]; exact h,fun i hi=>by rw [← at_ i (by omega)]; exact hno i hi⟩
 unfold HD
 rw [if_pos (List.any_eq_true.2 ⟨_,Lo hj,h⟩),e]
theorem Us {p:FV→Bool} {s:List FV} (hno:∀ i,i<s.length→p (s.getD i Zx)=false):HD p s = -1:=by
 unfold HD
 rw [if_neg]
 intro h
 obtain ⟨x,hx,hp⟩:=List.any_eq_true.1 h
 obtain ⟨i,hi,rfl⟩:=List.getElem_of_mem hx
 have:=hno i hi
 rw [List.getD_eq_getElem?_getD,List.getElem?_eq_getElem hi] at this
 simp only [Option.getD_some] at this
 rw [this] at hp; cases hp
theorem Nq (p:FV→Bool) (s:List FV):decide (0≤HD p s)=s.any p:=by
 unfold HD
 cases h:s.any p
 ·simp
 ·rw [if_pos rfl]; exact decide_eq_true (by omega)
theorem Un (s:List FV) (f:FuncId) (caps:List AV) (p:FV→Bool) (hl:s.length<1000000) (hc:∀ a∈caps,Settled a) (hp:∀ x∈s,Fn Tryz.prog f ([Jx x] ++ caps) (.bool (p x))) :
  Fn Tryz.prog 204 [ER s,.fn f caps] (I (HD p s)):=by
 refine Fn.intro (fn:=Tryz.f204) Tryz.call204 Tryz.func204 rfl mixed 6 [6,7,8] [] [] (by kernel_rfl) (Nat.le_of_ble_eq_true rfl) (by simpa [K0] using Jm hc) (X0 1000 ?_)
 simp (disch:=omega) only [AS.start,XB,↓Xw,wG,seval]
 refine Xg (fun j:Nat=>⟨6,[6,7,8],[ER s,.fn f caps,.any,.any,.any,.any],[(6,ER s),(7,I s.length),(8,I j)],[]⟩) (fun j=>j≤s.length∧∀ i,i<j→p (s.getD i Zx)=false) (fun j=>s.length - j) 0 ⟨by omega,by omega⟩
  (Xa rfl (by simp [Xh,XB,I]) (by simp [Xi,Xz,XB,I]) rfl) ?_
 rintro j ⟨hj,hno⟩ next
 by_cases hj2:j<s.length
 ·have v1:=fF s j
  have v2:=oZ s j
  refine X0 1000 ?_
  simp (disch:=omega) only [XB,v1,v2,XJ,↓Xw,wG,seval]
  refine XZ (hp _ (Lo hj2)) (Q0 _) ?_
  simp (disch:=omega) only [↓Xw,wG,seval]
  refine QW (fun ht=>Xt (v:=I j) rfl rfl (X9 _) ?_) (fun hf=>next (j+1) _ ⟨by omega,Kf.2 ⟨hno,hf⟩⟩ (by omega) (Xa rfl (by simp [Xh,XB,I]) (by simp [Xi,Xz,XB,I]) rfl))
  rw [ap hj2 ht hno]
 ·refine X0 1000 ?_
  simp (disch:=omega) only [XB,↓Xw,wG,seval]
  refine Xt (v:=I (-1)) rfl rfl (X9 _) ?_
  rw [Us fun i hi=>hno i (by omega)]
theorem ML (s:List FV) (f:FuncId) (caps:List AV) (p:FV→Bool) (hl:s.length<1000000) (hc:∀ a∈caps,Settled a) (hp:∀ x∈s,Fn Tryz.prog f ([Jx x] ++ caps) (.bool (p x))) :
  Fn Tryz.prog 139 [ER s,.fn f caps] (.bool (s.any p)):=by
 have hi:=Nq p s
 refine Fn.intro (fn:=Tryz.f139) Tryz.call139 Tryz.func139 rfl mixed 5 [] [] [] (by kernel_rfl) (Nat.le_of_ble_eq_true rfl) (by simpa [K0] using Jm hc) (X0 1000 ?_)
 simp (disch:=omega) only [AS.start,↓Xw,wG,seval]
 refine X1 (Un s f caps p hl hc hp) rfl ?_
 simp (disch:=omega) only [↓Xw,wG,seval]
 exact Xt (v:=.bool (decide (0≤HD p s))) rfl rfl (X3 _) (by rw [Nq])
theorem ae (a b:PV) (f g:FV) (ha:0<a.rim.length∧a.rim.length<1000000) (hb:0<b.rim.length∧b.rim.length<1000000) (nf:f.near) (ng:g.near) (hf:vb f.turn≤vm) (hg:vb g.turn≤vm) :
  Fn Tryz.prog 140 ([Jx g] ++ [p5 f,Zc a,Zc b]) (.bool (decide (ZS a.rim.length b.rim.length f g))):=by
 obtain ⟨V,hV⟩:∃ V,V=decide (ZS a.rim.length b.rim.length f g):=⟨_,rfl⟩
 rw [← hV]
 replace hV:=(Bool.eq_iff_iff.1 hV).trans decide_eq_true_iff
 have fin:∀ {s:AS} {v:Bool},s.get 5=.bool v→v=V→RetOk (QI Tryz.prog Tryz.f140 [2,30000004] [] (.bool V)) s:=fun h e=>Xt rfl h (X3 _) (by rw [e])
 obtain ⟨f1,f2,f3⟩:=nf
 obtain ⟨g1,g2,g3⟩:=ng
 have d0:=Int.emod_nonneg (f.EA - g.EA) (show (a.rim.length:Int)≠0 by omega)
 have d1:=Int.emod_lt_of_pos (f.EA - g.EA) (show (0:Int)<a.rim.length by omega)
 have c1:=Ar (f.EA - g.EA) a.rim.length ha.1 (by omega) (by omega)
 have c2:=Ar (g.EB - (f.EA - g.EA) % a.rim.length) b.rim.length hb.1 (by omega) (by omega)
 have c3:=AP f.turn g.turn hf hg
 unfold ZS at hV
 generalize (f.EA - g.EA) % (a.rim.length:Int)=d at *
 generalize (g.EB - d) % (b.rim.length:Int)=r at *
 refine Fq Tryz.call140 Tryz.func140 7 [] [2,30000004] [] (by simp [XP,Cb,K3]) (X0 1000 ?_)
 simp (disch:=omega) only [AS.start,QT,p5,XD,Xe,Jx,XJ,List.cons_append,List.nil_append,↓Xw,wG,seval]
 refine X1 c1 rfl ?_
 by_cases h1:f.M<g.M
 rotate_left
 ·simp (disch:=omega) only [↓Xw,wG,seval]
  exact fin rfl (vN hV (fun hh=>h1 hh.1))
 by_cases h2:d+f.M≤g.M
 rotate_left
 ·simp (disch:=omega) only [↓Xw,wG,seval]
  exact fin rfl (vN hV (fun hh=>h2 hh.2.1))
 simp (disch:=omega) only [↓Xw,wG,seval]
 refine X1 c2 rfl ?_
 by_cases h3:r=f.EB
 rotate_left
 ·simp (disch:=omega) only [↓Xw,wG,seval]
  exact fin rfl (vN hV (fun hh=>h3 hh.2.2.1))
 simp (disch:=omega) only [↓Xw,wG,seval]
 refine X1 c3 rfl ?_
 simp (disch:=omega) only [↓Xw,wG,seval]
 exact fin rfl (vI hV ⟨fun hh=>hh.2.2.2,fun hh=>⟨h1,h2,h3,hh⟩⟩)
def Um (W:List FV):AV:=.ptr 1 (Xo [ER W]) 0
theorem G3 (W:List FV):Um W=.ptr 1 (Xo [ER W]) 0:=nrfl rfl
theorem Dd (W:List FV):Settled (Um W):=J2 fun j hj=>by
 obtain rfl:j=0:=by omega
 exact K0 W
theorem gi (a b:PV) (f:FV) (W:List FV) (ha:0<a.rim.length∧a.rim.length<1000000) (hb:0<b.rim.length∧b.rim.length<1000000) (hW:W.length<1000000) (nf:f.near) (hf:vb f.turn≤vm) (hall:∀ g∈W,g.near∧vb g.turn≤vm) :
  Fn Tryz.prog 138 ([Jx f] ++ [Um W,Zc a,Zc b]) (.bool (Dv a.rim.length b.rim.length W f)):=by
 have c:=ML W 140 [p5 f,Zc a,Zc b] (fun g=>decide (ZS a.rim.length b.rim.length f g)) hW (by simp [Cb,K3]) (fun g hg=>ae a b f g ha hb nf (hall g hg).1 hf (hall g hg).2)
 change Fn _ _ _ (.bool (Dv a.rim.length b.rim.length W f)) at c
 generalize Dv a.rim.length b.rim.length W f=V at *
 refine Fq Tryz.call138 Tryz.func138 6 [] [] [] (by simp [XP,Dd,K3]) (X0 1000 ?_)
 simp (disch:=omega) only [AS.start,G3,QT,XB,Jx,XJ,List.cons_append,List.nil_append,↓Xw,wG,seval]
 refine JI c rfl ⟨(K0 W).sees _,Ca ⟨?_,(K3 a).sees _,(K3 b).sees _,trivial⟩,trivial⟩ (As _) ?_
 ·exact Z2 (.inl rfl) (by omega) fun j hj=>(Xc (XM f) j).sees _
 simp (disch:=omega) only [↓Xw,wG,seval]
 exact Xt rfl rfl (X3 _) rfl
def KS (a b:PV) (D:List FV):List AO:=[.row 0 25 (Xo (XD a)),.row 0 25 (Xo (XD b)),.row 0 1 (Xo [.osl 3 D.length 29 0 D.length]),.row D.length (D.length*29) (Xs XJ 29 Zx D)]
theorem Yi (a b:PV) (D:List FV):KS a b D=[.row 0 25 (Xo (XD a)),.row 0 25 (Xo (XD b)),.row 0 1 (Xo [.osl 3 D.length 29 0 D.length]),.row D.length (D.length*29) (Xs XJ 29 Zx D)]:=nrfl rfl
theorem GX (a b:PV) (D:List FV) (m:Nat) (h:4≤m):∀ o∈KS a b D,XK m o:=fun o ho=>by
 simp only [KS,List.mem_cons,List.not_mem_nil,or_false] at ho
 rcases ho with rfl | rfl | rfl | rfl
 ·exact XH (Xy a)
 ·exact XH (Xy b)
 ·intro j hj
  obtain rfl:j=0:=by omega
  exact Ig (by omega)
 ·exact fun j _=>X6 (Xc (XM _) _)
theorem Pz (a b:PV) (D:List FV):Pn 4 (KS a b D):=⟨rfl,fun o ho=>⟨GX a b D 4 (by omega) o ho,by
 simp only [KS,List.mem_cons,List.not_mem_nil,or_false] at ho
 rcases ho with rfl | rfl | rfl | rfl <;> simp⟩⟩
def sE (i j k:Nat):List AV:=[I 0,I 1,I i,I j,I k] ++ (Zj ++ (Zj ++ Zj))
theorem SU (i j k:Nat):∀ x∈sE i j k,Settled x:=by simp [sE,Zj,X9,X3,HU]
theorem Ub (a b:PV) (f:FV) (n:Nat):Be (B9 (Qt a b f n) ((Qt a b f n).length - 1)) ((B9 (Qt a b f n) ((Qt a b f n).length - 1)).length - 1)=Ja a b f n:=by
 rw [BQ]
 by_cases h:0<(Qt a b f n).length
 ·exact Yl a b f n h
 have e:Qt a b f n=[]:=List.eq_nil_of_length_eq_zero (by omega)
 have e2:Ja a b f n=[]:=by
  refine List.eq_nil_iff_forall_not_mem.2 fun x hx=>?_
  have:x∈Qt a b f n:=(PF a b f x n).2 ((AE a b f x n).1 hx)
  rw [e] at this; cases this
 rw [e,e2]; rfl
theorem gh (a b:PV) {ta tb:Rat} (ha:GP a ta) (hb:GP b tb):Fn Tryz.prog 50 [QH a,QH b] (ER (Ct a b (ta+tb))):=by
 have la:=(JN _ ha.poly).1
 have lb:=(JN _ hb.poly).1
 simp only [XC,List.length_map] at la lb
 have cs:=Pb a b
 obtain ⟨e,hT⟩:∃ e,e=ta+tb:=⟨_,rfl⟩
 rw [← hT]
 refine Fq Tryz.call50 Tryz.func50 15 [18,32,33,34,63,64,65] [] [5,6,7] (by simp [Xx]) (X0 1000 ?_)
 simp (disch:=omega) only [AS.start,QH,XD,↓Xw,wG,seval]
 refine X1 cs rfl ?_
 simp (disch:=omega) only [XD,↓Xw,wG,seval]
 refine Run.sub (s':=⟨15,[18,32,33,34,63,64,65],[.any,.any,.ref 0 0 0,.ref 1 0 0,.any,.ref 2 0 0,.any,.any,.any,.any,.any,.any,.any,.any,.any],[(17,.fn 197 [Zc a,Zc b])],KS a b []⟩) ?_
  ((Qr 2 1 (fun _=>.sl 0 0 (fun _=>.any) true) rfl (Nat.le_refl _) (fun j hj=>by have e:j=0:=Nat.lt_one_iff.1 hj; subst e; rfl)).trans ((BR 2 29 (Xs XJ 29 Zx []) rfl 1 (Nat.le_refl _)).trans ((Qr 2 1 (Xo [.osl 3 0 29 0 0]) rfl (Nat.le_refl _) (fun j hj=>by have e:j=0:=Nat.lt_one_iff.1 hj; subst e; rfl)).trans (Xa rfl (by simp [Xh]) (by simp [Xi,Xz,QT,XD,Xe,Xl,X4,I]) (by simp [KS,XD,Xe,Xl,X4,I])))))
 have hlenA:=IK a b e la.2 lb.2 (by omega) (by omega)
 refine F7 (gf:=197) (caps:=[Zc a,Zc b]) (Hn:=KS a b (Bh a b e)) rfl rfl rfl (fun t ht=>?_) ?_
 ·have hce:t.ce.H.length≤4:=by rw [ht.ch]; exact Nat.le_refl _
  refine M9 a b e t 4 (fun D=>KS a b D) (by omega) (by omega) (by omega) (by omega) (fun D=>Pz a b D) hce fun i j k D hi hj hk hD=>?_
  have hst:∀ t lo hi,AB a.rim.length b.rim.length ⟨0,1,i,j,(k+1:Nat),t,lo,hi⟩:=fun t lo hi=>⟨⟨by show (0:Int)≤i; omega,by show (i:Int)<_; omega⟩,⟨by show (0:Int)≤j; omega,by show (j:Int)<_; omega⟩,by show (1:Int)≤((k+1:Nat):Int); omega,by show ((k+1:Nat):Int)<_; omega,by show ((k+1:Nat):Int)<_; omega⟩
  have cp:=HJ a b (QF i j (k+1) v0) (hst _ _ _) ha.even hb.even
  have wf:=O5 i j (k+1)
  have hfk:Dk a b e i j (k+1)=if DX a b (QF i j (k+1) v0) then Zw a b e i j (k+1) (Ja a b (QF i j (k+1) v0) (k+1)) else []:=rfl
  rw [hfk]
  refine Em (str:=[]) (hcs:=[5,6,7]) ht mixed (by kernel_rfl) (by kernel_rfl) rfl (fun p hp=>?_) (fun o ho=>((Pz a b _).2 o ho).1) (fun l r hr=>?_)
  ·have hp':p=18:=by simpa using hp
   subst hp'
   exact Nat.le_of_ble_eq_true rfl
  show Run _ _ ⟨15,[18,32,33,34,63,64,65],[.any,.any,.ref 0 0 0,.ref 1 0 0,.any,.ref 2 0 0,.any,.any,.any,.any,.any,.any,.any,.any,.any],[(18,.agg (u8 i j (k+1))),(17,.fn 197 [Zc a,Zc b])],KS a b D⟩
  refine X0 1000 ?_
  simp (disch:=omega) only [Yi,QT,u8,XQ,List.cons_append,List.nil_append,↓Xw,wG,seval]
  refine Fl hr ?_
  refine X0 1000 ?_
  simp (disch:=omega) only [XD,↓Xw,wG,seval]
  refine XZ cp ⟨Weak.rfl' _,Weak.rfl' _,XW wf,trivial⟩ ?_
  by_cases hp:DX a b (QF i j (k+1) v0)
  rotate_left
  ·rw [if_neg hp,List.append_nil]
   simp (disch:=omega) only [decide_eq_false hp,↓Xw,wG,seval]
   exact nH rfl
  rw [if_pos hp]
  simp (disch:=omega) only [decide_eq_true hp,↓Xw,wG,seval]
  have hZ:=GX a b D
  have cA:=PH (.row 0 25 (Xo (XD a))) (.row 0 25 (Xo (XD b))) (.row 0 1 (Xo [.osl 3 D.length 29 0 D.length])) (.row D.length (D.length*29) (Xs XJ 29 Zx D)) (.row 0 29 (Xo (sE i j (k+1)))) (fun m hm=>hZ m (by omega) _ (by simp [KS])) (fun m hm=>hZ m (by omega) _ (by simp [KS])) (fun m hm=>hZ m (by omega) _ (by simp [KS])) (fun m hm=>hZ m (by omega) _ (by simp [KS])) (fun m hm=>XH (SU i j (k+1))) a b (QF i j (k+1) v0) (hst _ _ _) ha.even hb.even
  rw [show (QF i j (k+1) v0).M.toNat=k+1 from rfl] at cA
  have hAl:=DA a b (QF i j (k+1) v0) (k+1)
  have hAs:=Ff a b (QF i j (k+1) v0) ha.even.near hb.even.near (k+1)
  have hct:=Ub a b (QF i j (k+1) v0) (k+1)
  have hsm:=Bn a b (QF i j (k+1) v0) ha.even.near hb.even.near (k+1)
  have hlen:=BT a b (QF i j (k+1) v0) (k+1)
  have hcm2:=VC (B9 (Qt a b (QF i j (k+1) v0) (k+1)) ((Qt a b (QF i j (k+1) v0) (k+1)).length - 1))
  generalize Qt a b (QF i j (k+1) v0) (k+1)=A at *
  generalize Ja a b (QF i j (k+1) v0) (k+1)=L at *
  have hu8:∀ o∈[AO.row 0 25 (Xo (XD a)),.row 0 25 (Xo (XD b)),.row 0 1 (Xo [.osl 3 D.length 29 0 D.length]),.row D.length (D.length*29) (Xs XJ 29 Zx D),.row 0 29 (Xo (sE i j (k+1))),.dead,.dead,.dead],o≠AO.unborn:=by simp
  have cS:=nV (.row 0 25 (Xo (XD a))) (.row 0 25 (Xo (XD b))) (.row 0 1 (Xo [.osl 3 D.length 29 0 D.length])) (.row D.length (D.length*29) (Xs XJ 29 Zx D)) (.row 0 29 (Xo (sE i j (k+1)))) .dead .dead .dead hu8 A.length A (fun x hx=>by have:=hAs x hx; unfold vm; omega) (by omega)
  have hSl:=BQ A (A.length - 1)
  have hSm:∀ x∈B9 A (A.length - 1),vb x≤vm:=fun x hx=>by
   by_cases h0:0<A.length
   ·have:=hAs x (M6 A (A.length - 1) (by omega) x hx); unfold vm; omega
   ·rw [List.eq_nil_of_length_eq_zero (show (B9 A (A.length - 1)).length=0 by omega)] at hx; cases hx
  have cC:=Uc (.row 0 25 (Xo (XD a))) (.row 0 25 (Xo (XD b))) (.row 0 1 (Xo [.osl 3 D.length 29 0 D.length])) (.row D.length (D.length*29) (Xs XJ 29 Zx D)) (.row 0 29 (Xo (sE i j (k+1)))) .dead .dead .dead A.length (B9 A (A.length - 1)) hSm (by omega)
  rw [hct] at cC
  rw [hSl] at cC
  generalize B9 A (A.length - 1)=S at *
  refine KG rfl cA (QZ (by simp) (by simp)) (fun id hh=>absurd (List.mem_of_getElem? hh) (by simp)) ⟨Weak.rfl' _,Weak.rfl' _,XW wf,trivial⟩ ?_
  simp (disch:=omega) only [↓Xw,wG,seval]
  refine KG rfl cS (QZ (by simp) (by simp)) (fun id hh=>absurd (List.mem_of_getElem? hh) (by simp)) (Q0 _) ?_
  simp (disch:=omega) only [↓Xw,wG,seval]
  refine KG rfl cC (QZ (by simp) (by simp)) (fun id hh=>absurd (List.mem_of_getElem? hh) (by simp)) (Q0 _) ?_
  simp (disch:=omega) only [↓Xw,wG,seval]
  have hvc:∀ a:V2,∀ x∈vC a,Settled x:=fun a=>by simp [vC,X7,X3]
  have bAll:∀ (E:List FV) (f:FV),∀ o∈KS a b E ++ [.row 0 29 (Xo (XJ f)),.dead,.dead,.dead,.row A.length (L.length*8) (Xs vC 8 v0 L)],XK 9 o:=fun E f o ho=>by
   rcases List.mem_append.1 ho with ho | ho
   ·exact GX a b E 9 (by omega) o ho
   simp only [List.mem_cons,List.not_mem_nil,or_false] at ho
   rcases ho with rfl | rfl | rfl | rfl | rfl
   ·exact XH (XM f)
   ·trivial
   ·trivial
   ·trivial
   ·exact fun j _=>X6 (Xc (hvc _) _)
  refine Xg (fun w:Nat×V2×V2×V2=>⟨15,[18,32,33,34,63,64,65],[.any,.any,.ref 0 0 0,.ref 1 0 0,.any,.ref 2 0 0,.ref 4 0 0,.any,.any,.any,.any,.any,.any,.any,.any],[(32,.osl 8 A.length 8 0 L.length),(33,I L.length),(34,I w.1)],KS a b (D ++ Zw a b e i j (k+1) (L.take w.1)) ++ [.row 0 29 (Xo (XJ ⟨0,1,i,j,(k+1:Nat),w.2.1,w.2.2.1,w.2.2.2⟩)),.dead,.dead,.dead,.row A.length (L.length*8) (Xs vC 8 v0 L)]⟩) (fun w=>w.1≤L.length) (fun w=>L.length - w.1) (0,v0,v0,v0) (Nat.zero_le _)
   (Sub.trans (Ef 4 (XJ (QF i j (k+1) v0)) rfl rfl wf) (Xa rfl (by simp [Xh,I]) (by simp [Xi,Xz,I]) (by simp [KS,XD,Xe,Xl,X4,Zw,QF,I]))) ?_
  rintro ⟨t,T,lo,hi'⟩ ht nextt
  replace ht:t≤L.length:=ht
  by_cases ht2:t<L.length
  rotate_left
  ·obtain rfl:t=L.length:=by omega
   rw [List.take_length] at *
   refine X0 1000 ?_
   simp (disch:=omega) only [KS,↓Xw,wG,seval]
   exact nH rfl
  have hx:=hsm (L.getD t v0) (QN ht2)
  have htk:=Lj a b e i j (k+1) L t ht2
  have v1:=K5 vC 8 v0 L t
  have v2:=Ko vC 8 v0 L t (by omega)
  have htl:=H8 a b e i j (k+1) (L.take t)
  rw [List.length_take] at htl
  generalize L.getD t v0=x at *
  have ca:=II a b ⟨0,1,i,j,(k+1:Nat),x,lo,hi'⟩ ha.even hb.even (by show vb x≤1000; omega) ha.tol hb.tol (by have:=ha.qt; omega) (by have:=hb.qt; omega)
  rw [← hT] at ca
  have hag:XE a.rim b.rim ⟨0,1,i,j,(k+1:Nat),x,lo,hi'⟩ e=XE a.rim b.rim (QF i j (k+1) x) e:=rfl
  rw [hag] at ca
  have hqe:qb e≤41:=by rw [hT]; have:=JL ta tb; have:=ha.qt; have:=hb.qt; omega
  have hfine:(Ag a b (QF i j (k+1) x) e).fine:=by
   obtain ⟨h1,h2⟩:=FM a b (QF i j (k+1) x) ha.even.near hb.even.near e (by show vb x≤60; omega)
   exact ⟨by show vb x≤60; omega,by show vb (XE a.rim b.rim (QF i j (k+1) x) e).1≤300; omega,by show vb (XE a.rim b.rim (QF i j (k+1) x) e).2.1≤300; omega⟩
  have cc:=Nd a b _ ha hb hfine
  rw [← hT] at cc
  have hok:G5 a b e i j (k+1) x=((XE a.rim b.rim (QF i j (k+1) x) e).2.2 && KK a b (Ag a b (QF i j (k+1) x) e) e):=rfl
  have hsf:Ag a b (QF i j (k+1) x) e=⟨0,1,i,j,(k+1:Nat),x,(XE a.rim b.rim (QF i j (k+1) x) e).1,(XE a.rim b.rim (QF i j (k+1) x) e).2.1⟩:=rfl
  rw [hok,hsf] at htk
  rw [hsf] at cc
  generalize XE a.rim b.rim (QF i j (k+1) x) e=G at *
  obtain ⟨g1,g2,ok⟩:=G
  simp only at htk cc ca
  have nx2:=nextt (t+1,x,g1,g2)
  rw [htk,← List.append_assoc] at nx2
  have hDl:(D ++ Zw a b e i j (k+1) (L.take t)).length≤24000+12:=by rw [List.length_append]; omega
  generalize D ++ Zw a b e i j (k+1) (L.take t)=E at *
  generalize KK a b ⟨0,1,i,j,(k+1:Nat),x,g1,g2⟩ e=q at *
  refine X0 1000 ?_
  simp (disch:=omega) only [KS,vC,XJ,XD,Xe,List.cons_append,List.nil_append,v1,v2,↓Xw,wG,seval]
  refine X1 ca rfl ?_
  cases ok with
  | false =>
   simp only [Bool.false_and,Bool.false_eq_true,if_false,List.append_nil] at nx2
   simp (disch:=omega) only [↓Xw,wG,seval]
   exact nx2 _ (by show t+1≤L.length; omega) (by show L.length - (t+1)<L.length - t; omega) (Xr (m:=9) (Nat.le_add_right 4 5) rfl (by simp [Xh,I]) (by simp [Xi,Xz,I]) (by simp [KS,XD,XJ,Xe,Xl,X4,I,sg]) (by simp [Xv]) (by simp [Xv]) (bAll _ _))
  | true =>
   simp (disch:=omega) only [↓Xw,wG,seval]
   refine X1 cc rfl ?_
   cases q with
   | false =>
    simp only [Bool.and_false,Bool.false_eq_true,if_false,List.append_nil] at nx2
    simp (disch:=omega) only [↓Xw,wG,seval]
    exact nx2 _ (by show t+1≤L.length; omega) (by show L.length - (t+1)<L.length - t; omega) (Xr (m:=9) (Nat.le_add_right 4 5) rfl (by simp [Xh,I]) (by simp [Xi,Xz,I]) (by simp [KS,XD,XJ,Xe,Xl,X4,I,sg]) (by simp [Xv]) (by simp [Xv]) (bAll _ _))
   | true =>
    simp only [Bool.and_true,if_true] at nx2
    have hap:=XT XJ 29 Zx E ⟨0,1,i,j,(k+1:Nat),x,g1,g2⟩ (by omega)
    have hEl:(E ++ [(⟨0,1,i,j,(k+1:Nat),x,g1,g2⟩:FV)]).length=E.length+1:=by simp
    simp (disch:=omega) only [↓Xw,wG,seval]
    refine ⟨Il ⟨0,1,i,j,(k+1:Nat),x,g1,g2⟩,?_⟩
    exact nx2 _ (by show t+1≤L.length; omega) (by show L.length - (t+1)<L.length - t; omega) (Xr (m:=9) (Nat.le_add_right 4 5) rfl (by simp [Xh,I]) (by simp [Xi,Xz,I]) (by simp only [KS,hEl,← hap]; rfl) (by simp [Xv]) (by simp [Xv]) (bAll _ _))
 have hfin:∀ f∈Bh a b e,f.near∧vb f.turn≤vm:=fun f hf=>by
  rw [hT] at hf
  obtain ⟨h1,h2,_⟩:=G6 ha hb hf
  exact ⟨h1,by unfold vm; omega⟩
 have hdef:Ct a b e=(Bh a b e).filter fun f=>!Dv a.rim.length b.rim.length (Bh a b e) f:=rfl
 rw [hdef]
 clear hdef
 show Run _ _ ⟨15,[18,32,33,34,63,64,65],[.any,.any,.ref 0 0 0,.ref 1 0 0,.any,.ref 2 0 0,.any,.any,.any,.any,.any,.any,.any,.any,.any],[(17,.fn 197 [Zc a,Zc b])],KS a b (Bh a b e)⟩
 generalize Bh a b e=W at *
 refine Run.sub (s':=⟨15,[18,32,33,34,63,64,65],[.any,.any,Zc a,Zc b,.any,Um W,.any,.any,.any,.any,.any,.any,.any,.any,.any],[],[]⟩) ?_
  ((XR 0 rfl).trans ((XR 1 rfl).trans ((XR 3 rfl).trans ((ZF 2 (Xo [ER W]) rfl (fun j hj=>by
   obtain rfl:j=0:=by omega
   exact Dh (M:=W.length*29) rfl (Nat.le_refl _) (fun h=>by rw [h]) (fun j hj=>J1 _ _))).trans ((XR 2 rfl).trans ((CF 2 rfl rfl (by omega)).trans ((CF 3 rfl rfl (by omega)).trans ((CF 5 rfl rfl (by omega)).trans
   (Xr (m:=0) (Nat.zero_le _) rfl (by simp [AS.put,Xh,QT,G3]) (by simp [AS.put,Xi]) (by simp) (by simp [Xv,X6 (K3 a),X6 (K3 b),X6 (Dd W)]) (by simp [Xv]) (by simp))))))))))
 refine X0 1000 ?_
 simp (disch:=omega) only [QT,G3,XB,↓Xw,wG,seval]
 have sCl:Settled (.fn 138 [Um W,Zc a,Zc b]):=Jm (by simp [Dd,K3])
 have bCl:JJ 1 (.fn 138 [Um W,Zc a,Zc b])=True:=eq_true (X6 sCl)
 have bW:JJ 1 (ER W)=True:=eq_true (X6 (K0 W))
 have b3:∀ v n l,XK 1 (.row v n (Xs XJ 29 Zx l))=True:=fun v n l=>eq_true fun j _=>X6 (Xc (XM _) _)
 refine Xg (fun i:Nat=>⟨15,[18,32,33,34,63,64,65],[.any,.any,.any,.any,.any,.any,.any,.any,.any,.any,.any,.fn 138 [Um W,Zc a,Zc b],.osl 0 ((W.take i).filter (fun f=>!Dv a.rim.length b.rim.length W f)).length 29 0 ((W.take i).filter (fun f=>!Dv a.rim.length b.rim.length W f)).length,.any,.any],[(65,I i),(64,I W.length),(63,ER W)],[.row ((W.take i).filter (fun f=>!Dv a.rim.length b.rim.length W f)).length (((W.take i).filter (fun f=>!Dv a.rim.length b.rim.length W f)).length*29) (Xs XJ 29 Zx ((W.take i).filter (fun f=>!Dv a.rim.length b.rim.length W f)))]⟩) (fun i=>i≤W.length∧((W.take i).filter (fun f=>!Dv a.rim.length b.rim.length W f)).length≤i) (fun i=>W.length - i) 0 ⟨by omega,by simp⟩
  (Sub.trans (Q7 12 29 (Xs XJ 29 Zx []) rfl) (Xa rfl (by simp [AS.put,Xh,G3,QT,XB,I]) (by simp [AS.put,Xi,Xz,XB,I]) (by simp [AS.put]))) ?_
 rintro i ⟨hi,hil⟩ next
 by_cases hi2:i<W.length
 rotate_left
 ·obtain rfl:i=W.length:=by omega
  rw [List.take_length]
  refine X0 1000 ?_
  simp (disch:=omega) only [XB,↓Xw,wG,seval]
  exact OH _ rfl rfl rfl
 have nx:=next (i+1)
 rw [Nf _ _ W i hi2] at nx
 generalize (W.take i).filter (fun f=>!Dv a.rim.length b.rim.length W f)=D at *
 obtain ⟨n1,n2⟩:=hfin _ (QN (d:=Zx) hi2)
 have v1:=fF W i
 have v2:=oZ W i
 have c:=gi a b (W.getD i Zx) W ⟨by omega,by omega⟩ ⟨by omega,by omega⟩ (by omega) n1 n2 hfin
 generalize W.getD i Zx=f at *
 generalize Dv a.rim.length b.rim.length W f=q at *
 refine X0 1000 ?_
 simp (disch:=omega) only [XB,v1,v2,XJ,↓Xw,wG,seval]
 refine X1 c rfl ?_
 cases q with
 | true =>
  rw [if_pos rfl,List.append_nil] at nx
  simp (disch:=omega) only [XB,↓Xw,wG,seval]
  exact nx _ ⟨by omega,by omega⟩ (by omega) (Xr (m:=1) (Nat.zero_le _) rfl (by simp [Xh,I]) (by simp [Xi,Xz,XB,I]) (by simp) (by simp [Xv,bCl]) (by simp [Xv,bW]) (by simp [b3]))
 | false =>
  rw [if_neg (by decide)] at nx
  have hap:=XT XJ 29 Zx D f (by omega)
  have hDl:(D ++ [f]).length=D.length+1:=by simp
  simp (disch:=omega) only [XB,↓Xw,wG,seval]
  refine ⟨Il f,nx _ ⟨by omega,by omega⟩ (by omega) (Xr (m:=1) (Nat.zero_le _) rfl (by simp [Xh,hDl,I]) (by simp [Xi,Xz,XB,I]) (by simp only [hDl,← hap]; rfl) (by simp [Xv,bCl]) (by simp [Xv,bW]) (by simp [b3]))⟩
theorem Uo {a b:PV} {e:Rat} {f:FV} (h:f∈Bh a b e) (ha:0<a.rim.length) (hb:0<b.rim.length):Ag a b f e=f:=by
 obtain ⟨i,j,k,t,hi,hj,k0,kn,km,hp,ht,ho,rfl⟩:=(Dy a b e f ha hb).1 h
 rfl
theorem Iz {p:PV} {t:Rat} (h:GP p t):0<p.rim.length∧p.rim.length≤12:=by have:=h.poly.1; simp [XC] at this; omega
structure Fnd (a b:PV) (e:Rat) (L:List FV):Prop where
 len:L.length≤24000
 fine:∀ f∈L,f.fine
 self:∀ f∈L,Ag a b f e=f
 ok:∀ f∈L,Ki a b f e=0
theorem Ro {a b:PV} {ta tb:Rat} (ha:GP a ta) (hb:GP b tb):Fnd a b (ta+tb) (Ct a b (ta+tb)):=by
 have la:=Iz ha; have lb:=Iz hb
 refine ⟨Nat.le_trans (List.length_filter_le _ _) (IK a b (ta+tb) la.2 lb.2 la.1 lb.1),fun f hf=>?_,fun f hf=>Uo (List.mem_filter.1 hf).1 la.1 lb.1,fun f hf=>Hv (List.mem_filter.1 hf).1 la.1 lb.1⟩
 obtain ⟨_,h1,h2,h3⟩:=G6 ha hb (List.mem_filter.1 hf).1
 exact ⟨by omega,by omega,by omega⟩
theorem Sj {n m:Nat} {f g h:FV} (hn:0<n) (hf:0≤f.M) (hh:h.M<n) (h1:ZS n m f g) (h2:ZS n m g h):ZS n m f h:=by
 obtain ⟨a1,a2,a3,a4⟩:=h1
 obtain ⟨b1,b2,b3,b4⟩:=h2
 have p1:=Int.emod_nonneg (f.EA - g.EA) (show (n:Int)≠0 by omega)
 have p2:=Int.emod_nonneg (g.EA - h.EA) (show (n:Int)≠0 by omega)
 have e:(f.EA - h.EA) % n=(f.EA - g.EA) % n+(g.EA - h.EA) % n:=by
  have q:f.EA - h.EA=(f.EA - g.EA)+(g.EA - h.EA):=by omega
  rw [q,Int.add_emod]
  exact Int.emod_eq_of_lt (by omega) (by omega)
 refine ⟨by omega,by omega,?_,a4.trans b4⟩
 rw [e,← a3,← b3]
 generalize (f.EA - g.EA) % (n:Int)=d1
 generalize (g.EA - h.EA) % (n:Int)=d2
 rw [Int.emod_sub_emod]
 congr 1
 omega
theorem Aq {a b:PV} {e:Rat} {f:FV} (h:f∈Bh a b e) (ha:0<a.rim.length) (hb:0<b.rim.length):f.A=0∧f.B=1∧(0≤f.EA∧f.EA<a.rim.length)∧(0≤f.EB∧f.EB<b.rim.length)∧1≤f.M∧f.M<a.rim.length∧f.M<b.rim.length:=by
 obtain ⟨i,j,k,t,hi,hj,k0,kn,km,hp,ht,ho,rfl⟩:=(Dy a b e f ha hb).1 h
 refine ⟨rfl,rfl,?_⟩
 show (0≤(i:Int)∧(i:Int)<a.rim.length)∧(0≤(j:Int)∧(j:Int)<b.rim.length)∧1≤(k:Int)∧(k:Int)<a.rim.length∧(k:Int)<b.rim.length
 omega
theorem gj {a b:PV} {e:Rat} (ha:0<a.rim.length) (hb:0<b.rim.length):∀ (d:Nat) (f:FV),f∈Bh a b e→a.rim.length≤f.M.toNat+d→∃ h∈Ct a b e,f=h∨ZS a.rim.length b.rim.length f h:=by
 intro d
 induction d with
 | zero =>
  intro f hf hd
  have:=Aq hf ha hb
  omega
 | succ d ih =>
  intro f hf hd
  have sf:=Aq hf ha hb
  by_cases hp:Dv a.rim.length b.rim.length (Bh a b e) f=true
  ·unfold Dv at hp
   obtain ⟨g,hg,hq⟩:=List.any_eq_true.1 hp
   have hq:=of_decide_eq_true hq
   have sg:=Aq hg ha hb
   have hM:=hq.1
   obtain ⟨h,hh,hor⟩:=ih g hg (by omega)
   refine ⟨h,hh,.inr ?_⟩
   rcases hor with rfl | hor
   ·exact hq
   ·have sh:=Aq (List.mem_filter.1 hh).1 ha hb
    exact Sj ha (by omega) (by omega) hq hor
  ·exact ⟨f,List.mem_filter.2 ⟨hf,by simp [hp]⟩,.inl rfl⟩
theorem N6 {a b:PV} {e:Rat} {f:FV} (h:Ki a b f e=0) (hA:f.A=0) (hB:f.B=1) (ha:0<a.rim.length) (hb:0<b.rim.length):f∈Bh a b e:=by
 obtain ⟨h1,h2,h3,⟨h4,h5,h6⟩,h7⟩:=(FU a b f e).1 h
 obtain ⟨A,B,EA,EB,M,t,lo,hi⟩:=f
 simp only at hA hB
 subst hA hB
 obtain ⟨⟨x1,x2⟩,⟨x3,x4⟩,x5,x6,x7⟩:=h1
 simp only at x1 x2 x3 x4 x5 x6 x7
 obtain ⟨i,rfl⟩:=Int.eq_ofNat_of_zero_le x1
 obtain ⟨j,rfl⟩:=Int.eq_ofNat_of_zero_le x3
 obtain ⟨k,rfl⟩:=Int.eq_ofNat_of_zero_le (show 0≤M by omega)
 simp only at h5 h6
 obtain ⟨k',q1,q2,q3⟩:=h3
 have hs:(⟨0,1,(i:Int),(j:Int),(k:Int),t,lo,hi⟩:FV)=Ag a b (QF i j k t) e:=by
  show _=(⟨0,1,(i:Int),(j:Int),(k:Int),t,(XE a.rim b.rim (QF i j k t) e).1,(XE a.rim b.rim (QF i j k t) e).2.1⟩:FV)
  rw [show XE a.rim b.rim (QF i j k t) e=XE a.rim b.rim ⟨0,1,(i:Int),(j:Int),(k:Int),t,lo,hi⟩ e from rfl,h5,h6]
 refine (Dy a b e _ ha hb).2 ⟨i,j,k,t,by omega,by omega,by omega,by omega,by omega,h2,?_,?_,hs⟩
 ·rw [AE]
  exact ⟨k',by simpa using q1,q2,q3⟩
 ·unfold G5
  rw [Bool.and_eq_true,← hs]
  exact ⟨h4,h7⟩
theorem YL {a b:PV} {e:Rat} {f:FV} (h:Ki a b f e=0) (hA:f.A=0) (hB:f.B=1) (ha:0<a.rim.length) (hb:0<b.rim.length):∃ h∈Ct a b e,f=h∨ZS a.rim.length b.rim.length f h :=
 gj ha hb a.rim.length f (N6 h hA hB ha hb) (by omega)
def OG (n m:Nat) (g:FV) (W:List FV) (j:Nat):Bool:=(W.take j).any fun x=>decide (g=x) || decide (ZS n m g x)
theorem ai (n m:Nat) (g:FV) (W:List FV) (j:Nat) (h:j<W.length):OG n m g W (j+1)=(OG n m g W j || (decide (g=W.getD j Zx) || decide (ZS n m g (W.getD j Zx)))):=by
 unfold OG
 rw [List.take_succ_eq_append_getElem h,List.any_append,List.getD_eq_getElem?_getD,List.getElem?_eq_getElem h]
 simp
theorem gv {n m:Nat} {g:FV} {W:List FV} (h:∃ x∈W,g=x∨ZS n m g x):OG n m g W W.length=true:=by
 unfold OG
 rw [List.take_length,List.any_eq_true]
 obtain ⟨x,hx,h⟩:=h
 exact ⟨x,hx,by rcases h with h | h <;> simp [h]⟩
def Cg (R:List (Int×Int)):PV:=⟨0,0,R,List.replicate R.length false,List.replicate R.length 0,RQ.of 0,RQ.of (Rat.divInt 1 1),RQ.of (Rat.divInt 1 1),RQ.of (Rat.divInt 1 1),RQ.of 0⟩
theorem LD (R:List (Int×Int)) (hR:R.length<1000000):Fn Tryz.prog 130 [Dw R] (QH (Cg R)):=by
 have o1:=QX 1 1 ⟨by omega,by omega⟩ ⟨by omega,by omega⟩
 obtain ⟨V,hV⟩:∃ V,V=QH (Cg R):=⟨_,rfl⟩
 have sV:Settled V:=hV▸Xx _
 rw [← hV]
 unfold Cg at hV
 generalize Rat.divInt 1 1=q1 at *
 refine Fq Tryz.call130 Tryz.func130 4 [] [2,30000003] [] (by simp [QG]) (X0 1000 ?_)
 simp (disch:=omega) only [AS.start,Xe,↓Xw,wG,seval]
 refine X1 o1 rfl ?_
 simp (disch:=omega) only [Xe,↓Xw,wG,seval]
 subst hV
 have h2:∀ (H:List AO),H[2]?=some (.row 0 R.length fun _=>.bool false)→JH H (.osl 2 0 1 0 R.length) (A3 (List.replicate R.length false)):=fun H ho=>by
  rw [Xl,List.length_replicate]
  refine Qx (.inl ho) (by omega) (fun h=>by rw [h]) fun j hj=>?_
  rw [Kb,List.getD_eq_getElem?_getD,List.getElem?_replicate]
  split <;> exact (X3 _).sees _
 have h3:∀ (H:List AO),H[3]?=some (.row 0 R.length fun _=>.int .i64 0)→JH H (.osl 3 0 1 0 R.length) (X8 (List.replicate R.length 0)):=fun H ho=>by
  rw [X4,List.length_replicate]
  refine Qx (.inl ho) (by omega) (fun h=>by rw [h]) fun j hj=>?_
  rw [Kb,List.getD_eq_getElem?_getD,List.getElem?_replicate]
  split <;> exact (X9 _).sees _
 have h4:∀ (H:List AO) (f:Nat→AV) (t:Bool),JH H (.sl 0 0 f t) (X8 (RQ.of 0).pd):=fun H f t=>by
  have e:(RQ.of 0).pd=[]:=by rw [← Mq]; rfl
  rw [e]; exact Xu (X7 _) (Qo _ _)
 have h5:∀ (H:List AO) (f:Nat→AV) (t:Bool),JH H (.sl 0 0 f t) (X8 (RQ.of 0).qd):=fun H f t=>by
  have e:(RQ.of 0).qd=[]:=by rw [← Mq]; rfl
  rw [e]; exact Xu (X7 _) (Qo _ _)
 have h6:∀ (H:List AO),JH H (.bool false) (.bool (RQ.of 0).pn):=fun H=>by
  have e:(RQ.of 0).pn=false:=by rw [← Mq]; rfl
  rw [e]; exact (X3 _).sees _
 have h7:∀ (H:List AO),JH H (.bool false) (.bool (RQ.of 0).qn):=fun H=>(X3 _).sees _
 refine E7 rfl Gc rfl rfl rfl ?_
 refine ZD ⟨(X9 _).sees _,(X9 _).sees _,(QG _).sees _,h2 _ rfl,h3 _ rfl,h6 _,h4 _ _ _,h7 _,h5 _ _ _,(X3 _).sees _,(X7 _).sees _,(X3 _).sees _,(X7 _).sees _,(X3 _).sees _,(X7 _).sees _,(X3 _).sees _,(X7 _).sees _,(X3 _).sees _,(X7 _).sees _,(X3 _).sees _,(X7 _).sees _,h6 _,h4 _ _ _,h7 _,h5 _ _ _,trivial⟩
theorem NJ (l:List Int):GP (Aa l) (rU l):=by
 have hro:=P2 l
 have hl:=NS l
 have b10:=XF l 10 3 (by omega)
 have q:=BH (Ab.atF l 10 3) 4 ⟨by omega,by omega⟩ ⟨by omega,by omega⟩
 refine ⟨⟨by have:=hro.1; omega,by omega,by omega,fun c hc=>?_⟩,hro.2.2,rfl,?_⟩
 ·have:=hro.2.1 c hc; omega
 ·show qb (Rat.divInt (Ab.atF l 10 3) 4)≤20; omega
theorem aT (l m:List Int) (hl:C0 l) (hl2:l.length<9223372036854775808) (hm:C0 m) (hm2:m.length<9223372036854775808) :
  ∃ (A B:PV) (ta tb:Rat),Fn Tryz.prog 38 [X8 l,X8 m] (.tup [QH A,QH B])∧GP A ta∧GP B tb∧A.small∧B.small:=by
 by_cases h:0<m.length
 ·have c1:=NK l hl hl2
  have c2:=NK m hm hm2
  have s1:=Gp l; have s2:=Gp m
  have g1:=NJ l; have g2:=NJ m
  refine ⟨Aa l,Aa m,_,_,?_,g1,g2,s1,s2⟩
  generalize Aa l=A at *
  generalize Aa m=B at *
  refine Fq Tryz.call38 Tryz.func38 7 [] [4,50000006] [] (by simp [X7]) (X0 1000 ?_)
  simp (disch:=omega) only [AS.start,X4,↓Xw,wG,seval]
  refine X1 c1 rfl ?_
  simp (disch:=omega) only [X4,↓Xw,wG,seval]
  refine X1 c2 rfl ?_
  simp (disch:=omega) only [QH,XD,↓Xw,wG,seval]
  exact Jn rfl (Xq Gc rfl rfl rfl) (Xq Gc rfl rfl rfl) ((Xx A).sees _) ((Xx B).sees _)
 ·obtain ⟨A,B,F,ta,tb,cP,gA,gB,sA,sB,_⟩:=np l hl
  refine ⟨A,B,ta,tb,?_,gA,gB,sA,sB⟩
  refine Fq Tryz.call38 Tryz.func38 7 [] [4,50000006] [] (by simp [X7]) (X0 1000 ?_)
  simp (disch:=omega) only [AS.start,X4,↓Xw,wG,seval]
  refine X1 cP rfl ?_
  simp (disch:=omega) only [kc,XD,XJ,List.cons_append,List.nil_append,↓Xw,wG,seval]
  exact Jn rfl (Xq Gc rfl rfl rfl) (Xq Gc rfl rfl rfl) ((Xx A).sees _) ((Xx B).sees _)
end
end Go.Ab.N
