/- Own texts. -/
import Derived.Test.YtefjhgcndhepeaaGreatC10
import Derived.Shelf.SlicesE.Delete
import Derived.Test.YtefjhgcndhepeaaGreatC3
import Derived.Test.YtefjhgcndhepeaaGreatC6
set_option linter.unusedSimpArgs false
set_option linter.unusedVariables false
open Nat renaming reducePow → Y1, reduceLT → Y2, reduceLeDiff → Y3, reduceEqDiff → Y4, reduceAdd → Y5, reduceMul → Y6, reduceSub → Y7, reduceBEq → Y8, reduceDiv → Y9, reduceMod → YA
namespace Go.Ab.N
open Go Go.RowKit Go.Proofs
noncomputable section
set_option maxRecDepth 10000
set_option maxHeartbeats 4000000
open Classical
noncomputable def mM (A B:List (List V2)) (e:Rat) (n:Nat):V2:=(KK (A.getD (n / B.length) []) (B.getD (n % B.length) []) e).1
noncomputable def Dt (A B:List (List V2)) (e:Rat) (n:Nat):List V2:=(List.range n).map (mM A B e)
theorem gi (A B:List (List V2)) (e:Rat) (n:Nat):(Dt A B e n).length=n:=by unfold Dt; rw [List.length_map,List.length_range]
theorem aD (A B:List (List V2)) (e:Rat) (n:Nat):Dt A B e (n+1)=Dt A B e n ++ [mM A B e n]:=by unfold Dt; rw [List.range_succ,List.map_append]; rfl
theorem mN (A B:List (List V2)) (e:Rat) (i k:Nat) (hk:k<B.length):mM A B e (i*B.length+k)=(KK (A.getD i []) (B.getD k []) e).1:=by
 unfold mM
 rw [show i*B.length+k=k+B.length*i by rw [Nat.mul_comm,Nat.add_comm],Nat.add_mul_div_left _ _ (by omega),Nat.add_mul_mod_self_left,Nat.div_eq_of_lt hk,Nat.mod_eq_of_lt hk,Nat.zero_add]
def GX (e:Rat) (W:List V2):List AO:=[.row 0 4 (Xn (qC e)),.row 0 1 (Xn [.sl 0 0 (fun _=>.any) true]),.row 0 1 (Xn [.bool false]),.row 0 1 (Xn [.osl 4 W.length 8 0 W.length]),.row W.length (W.length*8) (Xs vC 8 v0 W)]
theorem IV (e:Rat) (W:List V2):GX e W=[.row 0 4 (Xn (qC e)),.row 0 1 (Xn [.sl 0 0 (fun _=>.any) true]),.row 0 1 (Xn [.bool false]),.row 0 1 (Xn [.osl 4 W.length 8 0 W.length]),.row W.length (W.length*8) (Xs vC 8 v0 W)]:=nrfl rfl
theorem Ot (e:Rat) (W:List V2):Pt 5 (GX e W):=by
 have hvc:∀ a:V2,∀ x∈vC a,Settled x:=fun a=>by simp [vC,X6,X2]
 refine ⟨rfl,fun o ho=>?_⟩
 simp only [GX,List.mem_cons,List.not_mem_nil,or_false] at ho
 rcases ho with rfl | rfl | rfl | rfl | rfl
 ·exact ⟨by simp [qC,XA],by simp,by simp⟩
 ·exact ⟨by simp [XA],by simp,by simp⟩
 ·exact ⟨by simp [XA],by simp,by simp⟩
 ·exact ⟨by simp [XA],by simp,by simp⟩
 ·exact ⟨fun j _=>X5 (Xb (hvc _) _),by simp,by simp⟩
theorem q8 {p:Nat→Prop}:∀ n,p n→∃ n,p n∧∀ m,m<n→¬ p m:=by
 intro n
 induction n using Nat.strongRecOn with
 | ind n ih =>
  intro h
  by_cases hm:∃ m,m<n∧p m
  ·obtain ⟨m,h1,h2⟩:=hm
   exact ih m h1 h2
  ·exact ⟨n,h,fun m hm' hp=>hm ⟨m,hm',hp⟩⟩
def YF (e:Rat) (W:List V2):List AO:=[.row 0 4 (Xn (qC e)),.row 0 1 (Xn [.sl 0 0 (fun _=>.any) false]),.row 0 1 (Xn [.bool false]),.row 0 1 (Xn [.osl 4 W.length 8 0 W.length]),.row W.length (W.length*8) (Xs vC 8 v0 W)]
theorem PI (e:Rat) (W:List V2):YF e W=[.row 0 4 (Xn (qC e)),.row 0 1 (Xn [.sl 0 0 (fun _=>.any) false]),.row 0 1 (Xn [.bool false]),.row 0 1 (Xn [.osl 4 W.length 8 0 W.length]),.row W.length (W.length*8) (Xs vC 8 v0 W)]:=nrfl rfl
theorem VO (e:Rat) (W:List V2):Pt 5 (YF e W):=by
 have hvc:∀ a:V2,∀ x∈vC a,Settled x:=fun a=>by simp [vC,X6,X2]
 refine ⟨rfl,fun o ho=>?_⟩
 simp only [YF,List.mem_cons,List.not_mem_nil,or_false] at ho
 rcases ho with rfl | rfl | rfl | rfl | rfl
 ·exact ⟨by simp [qC,XA],by simp,by simp⟩
 ·exact ⟨by simp [XA],by simp,by simp⟩
 ·exact ⟨by simp [XA],by simp,by simp⟩
 ·exact ⟨by simp [XA],by simp,by simp⟩
 ·exact ⟨fun j _=>X5 (Xb (hvc _) _),by simp,by simp⟩
theorem U0 {A B:List (List V2)} {e:Rat} (h:F9 A B e=false):∃ i k,i<A.length∧k<B.length∧Zz A B e i k=false∧∀ j l,(j<i∨j=i∧l<k)→l<B.length→Zz A B e j l=true:=by
 have h1:¬ ∀ i,i<A.length→IX A B e i=true:=fun H=>by
  have:F9 A B e=true:=decide_eq_true H
  rw [h] at this; cases this
 have h2:∃ i,i<A.length∧IX A B e i=false:=by
  apply Classical.byContradiction
  intro H
  refine h1 fun i hi=>?_
  cases hp:IX A B e i with
  | true=>rfl
  | false=>exact absurd ⟨i,hi,hp⟩ H
 obtain ⟨i',hi'⟩:=h2
 obtain ⟨i,⟨hi,hp⟩,hmin⟩:=q8 (p:=fun i=>i<A.length∧IX A B e i=false) i' hi'
 have h4:∃ k,k<B.length∧Zz A B e i k=false:=by
  apply Classical.byContradiction
  intro H
  have:IX A B e i=true:=decide_eq_true fun k hk=>by
   cases hq:Zz A B e i k with
   | true=>rfl
   | false=>exact absurd ⟨k,hk,hq⟩ H
  rw [hp] at this; cases this
 obtain ⟨k',hk'⟩:=h4
 obtain ⟨k,⟨hk,hq⟩,hmin2⟩:=q8 (p:=fun k=>k<B.length∧Zz A B e i k=false) k' hk'
 refine ⟨i,k,hi,hk,hq,fun j l hjl hl=>?_⟩
 cases hv:Zz A B e j l with
 | true=>rfl
 | false =>
  rcases hjl with hj | ⟨rfl,hlk⟩
  ·exact absurd ⟨by omega,VN hl hv⟩ (hmin j hj)
  ·exact absurd ⟨hl,hv⟩ (hmin2 l hlk)
theorem lj (A B:List (List V2)) (e:Rat) (c:Nat) (ha:∀ i,i<A.length→Shp c (A.getD i [])) (hb:∀ i,i<B.length→Shp c (B.getD i [])) (h1:1≤c) (hc:c≤1000) (he:qb e≤10000) (la:A.length≤1000) (lb:B.length≤1000) :
  Fn Tryz.prog 201 [GU A,GU B,qA e] (.tup [.any,.bool (F9 A B e)]):=by
 have cp:=jn A B
 obtain ⟨R,hR⟩:∃ R,R=F9 A B e:=⟨_,rfl⟩
 rw [← hR]
 have s15:Settled (.fn 260 [ZN A,ZN B]):=Jq (by
  intro a ha
  simp only [List.mem_cons,List.not_mem_nil,or_false] at ha
  rcases ha with rfl | rfl <;> exact GE _)
 refine Fq Tryz.call201 Tryz.func201 13 [16,17] [] [] (by simp [Kf,Xa]) (Xl ?_)
 simp only [AS.start,XF,↓X1,wF,seval]
 refine X0 cp rfl ?_
 simp only [XF,↓X1,wF,seval]
 refine Run.sub (s':=⟨13,[16,17],[.any,.any,.any,.any,.any,.ref 0 0 0,.ref 1 0 0,.ref 2 0 0,.ref 3 0 0,.any,.any,.any,.any],[(15,.fn 260 [ZN A,ZN B])],GX e []⟩) ?_ ((Qr 3 1 (fun _=>.sl 0 0 (fun _=>.any) true) rfl (Nat.le_refl _) (fun j hj=>by have e:j=0:=Nat.lt_one_iff.1 hj; subst e; rfl)).trans ((BR 3 8 (Xs vC 8 v0 []) rfl 1 (Nat.le_refl _)).trans ((Qr 3 1 (Xn [.osl 4 0 8 0 0]) rfl (Nat.le_refl _) (fun j hj=>by have e:j=0:=Nat.lt_one_iff.1 hj; subst e; rfl)).trans (Xi rfl (by simp [Xf]) (by simp [Xq,Xw]) (by simp [GX,qC,X3])))))
 have hb1:∀ i k,i<A.length→k<B.length→i*B.length+k<1000*1000:=fun i k hi hk=>by
  have h2:i*B.length+B.length≤A.length*B.length:=by rw [← Nat.succ_mul]; exact Nat.mul_le_mul_right _ hi
  have h3:A.length*B.length≤1000*1000:=Nat.mul_le_mul la lb
  omega
 have hN:∃ N,(R=true∧N=A.length*B.length∧∀ i k,i<A.length→k<B.length→Zz A B e i k=true)∨(R=false∧∃ i0 k0,N=i0*B.length+k0∧i0<A.length∧k0<B.length∧Zz A B e i0 k0=false∧∀ j l,(j<i0∨j=i0∧l<k0)→l<B.length→Zz A B e j l=true):=by
  cases hq:F9 A B e with
  | true =>
   have h2:=of_decide_eq_true hq
   exact ⟨_,.inl ⟨hR.trans hq,rfl,fun i k hi hk=>of_decide_eq_true (h2 i hi) k hk⟩⟩
  | false =>
   obtain ⟨i0,k0,g1,g2,g3,g4⟩:=U0 hq
   exact ⟨_,.inr ⟨hR.trans hq,i0,k0,rfl,g1,g2,g3,g4⟩⟩
 obtain ⟨N,hN⟩:=hN
 refine E9 R (gf:=260) (caps:=[ZN A,ZN B]) (Hn:=cond R (GX e (Dt A B e N)) (YF e (Dt A B e N))) rfl rfl rfl (fun t ht=>?_) ?_
 ·have yT:∀ i k,i<A.length→k<B.length→Zz A B e i k=true→YCall Tryz.prog t [Xp (A.getD i []),Xp (B.getD k [])] (GX e (Dt A B e (i*B.length+k))) (.bool true) (GX e (Dt A B e (i*B.length+k+1))):=fun i k hi hk hp=>by
   have cf:=PD (A.getD i []) (B.getD k []) e c (ha i hi) (hb k hk) h1 hc he
   rw [show (KK (A.getD i []) (B.getD k []) e).2=true from hp] at cf
   have hd:=mN A B e i k hk
   have hlt:=hb1 i k hi hk
   have hs:=aD A B e (i*B.length+k)
   have hl:=gi A B e (i*B.length+k)
   rw [hs,hd]
   generalize Dt A B e (i*B.length+k)=W at *
   generalize (KK (A.getD i []) (B.getD k []) e).1=d at *
   have hap:=XR vC 8 v0 W d (by omega)
   refine Ek (str:=[]) (hcs:=[]) ht mixed (by kernel_rfl) (by kernel_rfl) rfl (fun p hp=>?_) (fun o ho=>((Ot e _).2 o ho).1) (fun l r hr=>?_)
   ·have hp':p=16∨p=17:=by simpa using hp
    rcases hp' with rfl | rfl <;> exact Nat.le_of_ble_eq_true rfl
   show Run _ _ ⟨13,[16,17],[.any,.any,.any,.any,.any,.ref 0 0 0,.ref 1 0 0,.ref 2 0 0,.ref 3 0 0,.any,.any,.any,.any],[(17,Xp (B.getD k [])),(16,Xp (A.getD i [])),(15,.fn 260 [ZN A,ZN B])],GX e W⟩
   refine Xl ?_
   simp only [IV,↓X1,wF,seval]
   refine Fj hr ?_
   refine Xl ?_
   simp only [↓X1,wF,seval]
   refine X0 cf rfl ?_
   simp only [↓X1,wF,seval]
   refine ⟨⟨Zg _,by omega,by omega⟩,oJ ?_⟩
   rw [List.length_append,List.length_singleton,← hap]
   rfl
  have hce:t.ce.H.length≤5:=by rw [ht.ch]; exact Nat.le_refl _
  rcases hN with ⟨rfl,rfl,hall⟩ | ⟨rfl,i0,k0,rfl,hi0,hk0,hno,hyes⟩
  ·exact V1 A B t 5 (fun n=>GX e (Dt A B e n)) la lb (fun n=>Ot _ _) hce fun i k hi hk=>yT i k hi hk (hall i k hi hk)
  ·refine bV A B t 5 (fun n=>GX e (Dt A B e n)) (YF e (Dt A B e (i0*B.length+k0))) la lb (fun n=>Ot _ _) hce i0 k0 hi0 hk0 (fun i k h hk=>yT i k (by omega) hk (hyes i k h hk)) ?_ (VO _ _)
   have cf:=PD (A.getD i0 []) (B.getD k0 []) e c (ha i0 hi0) (hb k0 hk0) h1 hc he
   rw [show (KK (A.getD i0 []) (B.getD k0 []) e).2=false from hno] at cf
   generalize Dt A B e (i0*B.length+k0)=W at *
   generalize (KK (A.getD i0 []) (B.getD k0 []) e).1=d at *
   refine Mv false (str:=[]) (hcs:=[]) ht mixed (by kernel_rfl) (by kernel_rfl) rfl (fun p hp=>?_) (fun o ho=>((VO e _).2 o ho).1) (fun l r hr=>?_)
   ·have hp':p=16∨p=17:=by simpa using hp
    rcases hp' with rfl | rfl <;> exact Nat.le_of_ble_eq_true rfl
   show Run (UB _ _ _ _ _ _ _ _) _ ⟨13,[16,17],[.any,.any,.any,.any,.any,.ref 0 0 0,.ref 1 0 0,.ref 2 0 0,.ref 3 0 0,.any,.any,.any,.any],[(17,Xp (B.getD k0 [])),(16,Xp (A.getD i0 [])),(15,.fn 260 [ZN A,ZN B])],GX e W⟩
   refine Xl ?_
   simp only [IV,PI,↓X1,wF,seval]
   refine UC hr ?_
   refine Xl ?_
   simp only [↓X1,wF,seval]
   refine X0 cf rfl ?_
   simp only [↓X1,wF,seval]
   exact wn rfl
 ·rcases hN with ⟨rfl,rfl,hall⟩ | ⟨rfl,i0,k0,rfl,hi0,hk0,hno,hyes⟩
  ·show Run _ _ ⟨13,[16,17],[.any,.any,.any,.any,.any,.ref 0 0 0,.ref 1 0 0,.ref 2 0 0,.ref 3 0 0,.any,.any,.any,.any],[(15,.fn 260 [ZN A,ZN B])],GX e (Dt A B e (A.length*B.length))⟩
   generalize Dt A B e (A.length*B.length)=W
   show Run _ (_ :: _) _
   refine Xl ?_
   simp only [IV,↓X1,wF,seval]
   exact J2 (x:=.osl 4 W.length 8 0 W.length) (y:=.bool true) rfl (by simp only [QH,↓X1,wF,seval]) (by simp only [QH,↓X1,wF,seval]) (Xr A3 (GO _)) ((X2 _).sees _)
  ·show Run _ _ ⟨13,[16,17],[.any,.any,.any,.any,.any,.ref 0 0 0,.ref 1 0 0,.ref 2 0 0,.ref 3 0 0,.any,.any,.any,.any],[(15,.fn 260 [ZN A,ZN B])],YF e (Dt A B e (i0*B.length+k0))⟩
   generalize Dt A B e (i0*B.length+k0)=W
   show Run _ (_ :: _) _
   refine Xl ?_
   simp only [PI,↓X1,wF,seval]
   exact J2 (x:=.sl 0 0 (fun _=>.any) false) (y:=.bool false) rfl (by simp only [QH,↓X1,wF,seval]) (by simp only [QH,↓X1,wF,seval]) (Xr A3 (GO _)) ((X2 _).sees _)
def wK:Go.Shelf.Ren:=⟨fun _=>290,fun t=>if t=23 then 3 else t,fun x=>x⟩
theorem uC:SlLaysE.n45 Tryz.prog wK where
 mixed:=mixed
 f45:=⟨Tryz.f290.name,rfl,Tryz.func290.trans (congrArg some rfl)⟩
 t0:=Tryz.underlying0
 a0:=Tryz.isAgg0
 z0:=Tryz.sizeOf0
 v0:=Tryz.zeroValue0
 t3:=Tryz.underlying3
 a3:=Tryz.isAgg3
 z3:=Tryz.sizeOf3
 v3:=Tryz.zeroValue3
 t4:=Tryz.underlying4
 a4:=Tryz.isAgg4
 z4:=Tryz.sizeOf4
 v4:=Tryz.zeroValue4
 t22:=Tryz.underlying22
 a22:=Tryz.isAgg22
 z22:=Tryz.sizeOf22
 v22:=Tryz.zeroValue22
 a23:=Tryz.isAgg3
 z23:=Tryz.sizeOf3
def MM (x:Int):Value:=.int .i64 x
theorem RE (w:World) (b:Nat) (d:Array Int) (cs:Array Value) (el:TypeId) (fr:Nat×Nat) (h:w.heap[b]?=some (.cells cs el fr)):(Go.Sort.putRow MM w b 0 d).heap[b]?=some (.cells (Go.Sort.putCells MM 0 d cs) el fr):=by
 show (w.heap.modify b _)[b]?=_
 rw [Array.getElem?_modify,if_pos rfl,h]
 rfl
theorem Gb (w:World) (b b':Nat) (d:Array Int) (h:b'≠b):(Go.Sort.putRow MM w b 0 d).heap[b']?=w.heap[b']?:=by
 show (w.heap.modify b _)[b']?=_
 rw [Array.getElem?_modify,if_neg (Ne.symm h)]
theorem Nb (o:AO) (R:List Int) (v i:Nat) (hi:i<R.length):HCall Tryz.prog 290 [.osl 1 v 1 0 R.length,I i,I ((i+1:Nat):Int)] [o,.row v R.length (Q7 I 0 R)] (.osl 1 (v+1) 1 0 (R.length - 1)) [o,.row (v+1) (R.length - 1) (Q7 I 0 (R.eraseIdx i))]:=by
 refine ⟨Tryz.call290,?_⟩
 rintro c vs hH hr ⟨hv1,hv2⟩
 have ho:c.H[1]?=some (.row v R.length (Q7 I 0 R)):=by rw [hH]; rfl
 have hinf:inf c.H 1=some v:=by simp [inf,ho,AO.info]
 have live:¬ stale c.H 1 v:=by
  rintro (⟨v'',h1,hlt⟩ | hd)
  ·rw [hinf] at h1; cases h1; omega
  ·simp [inf,hd,AO.info] at hinf
 obtain ⟨l,hl⟩:∃ l,vs=l:=⟨_,rfl⟩
 have hx:=hv2 0 (by simp)
 have hy:=hv2 1 (by simp)
 have hz:=hv2 2 (by simp)
 have e3:vs=#[vs.getD 0 undef,vs.getD 1 undef,vs.getD 2 undef]:=by
  have h3:vs.size=3:=hv1
  apply Array.ext
  ·simp [h3]
  ·intro j h1 h2
   match j,h1 with
   | 0,_=>simp [Array.getD,h3]
   | 1,_=>simp [Array.getD,h3]
   | 2,_=>simp [Array.getD,h3]
   | j+3,h=>omega
 rw [e3]
 generalize vs.getD 0 undef=x at *
 generalize vs.getD 1 undef=y at *
 generalize vs.getD 2 undef=z at *
 replace hx:Rep c x (.osl 1 v 1 0 R.length):=hx
 replace hy:Rep c y (I i):=hy
 replace hz:Rep c z (I ((i+1:Nat):Int)):=hz
 cases hy
 cases hz
 generalize hn:R.length=n at hx
 cases hx with
 | oslz _ _ _ _ a h=>omega
 | oslOld _ _ _ _ _ a cap h hs=>exact absurd hs live
 | oslzOld _ _ _ _ a hs=>exact absurd hs live
 | osl _ _ _ _ _ cap b sz h1 hg hcn hcap hmx =>
  subst hn
  rcases hr.row 1 _ _ _ ho with ⟨hg',_⟩ | ⟨b',sz',cs,el,hg',hh,hcs,hks,hnS,hcr⟩
  ·rw [hg'] at hg; cases hg
  rw [hg'] at hg
  cases hg
  have hcell:∀ j,j<R.length→cs.getD j undef=MM (R.getD j 0):=fun j hj=>by
   have:=hcr j hj
   rw [show Q7 I 0 R j=I (R.getD j 0) from rfl] at this
   generalize cs.getD j undef=q at this ⊢
   cases this; rfl
  have hget:∀ j,j<R.length→R.toArray[j]! = R.getD j 0:=fun j hj=>by
   rw [getElem!_pos R.toArray j (by simpa using hj)]
   simp [List.getD_eq_getElem?_getD,hj]
  have hold:Go.Sort.Holds MM c.w b 0 R.toArray:=fun j hj=>by
   have hj':j<R.length:=by simpa using hj
   refine ⟨?_,?_⟩
   ·rw [Ae hh (m:=R.length) (by omega) j hj',hcell j hj',hget j hj']
   ·unfold World.frozen?
    rw [hh]
    simp
  obtain ⟨_,i0,z0,hi0,hz1,_⟩:=ZD pY
  have key:=AnyE.slices_Delete uC MM (fun _=>rfl) 0 (fun w=>Tryz.zeroValue3 w) i0 hi0 hz1 b 0 cap i (i+1) R.toArray c.w hold (by simpa using hcn) hmx (by omega) (by rw [List.size_toArray]; omega)
  rw [List.size_toArray] at key
  refine key.mono ?_
  rintro e w' ⟨rfl,q,rfl⟩
  obtain ⟨d,hd⟩:∃ d,d=(R.toArray.toList.take i ++ R.toArray.toList.drop (i+1) ++ List.replicate (i+1 - i) (0:Int)).toArray:=⟨_,rfl⟩
  rw [← hd]
  have hds:d.size=R.length:=by rw [hd]; simp; omega
  have hdj:∀ j,j<R.length - 1→d[j]! = (R.eraseIdx i).getD j 0:=fun j hj=>by
   rw [getElem!_pos d j (by omega)]
   subst hd
   simp only [List.getElem_toArray,List.getD_eq_getElem?_getD,List.getElem?_eraseIdx]
   by_cases h:j<i
   ·rw [List.getElem_append_left (by simp; omega),List.getElem_append_left (by simp; omega)]
    simp [h,show j<R.length by omega]
   ·rw [List.getElem_append_left (by simp; omega),List.getElem_append_right (by simp; omega)]
    have e1:i+1+(j - min i R.length)=j+1:=by omega
    simp [h,e1,show j+1<R.length by omega]
  have hcs2:(Go.Sort.putCells MM 0 d cs).size=cs.size:=by simp [Go.Sort.putCells]
  have hset:(c.H.set 1 (.row (v+1) (R.length - 1) (Q7 I 0 (R.eraseIdx i))))[1]?=some (.row (v+1) (R.length - 1) (Q7 I 0 (R.eraseIdx i))):=by rw [hH]; rfl
  have hoth:∀ k,k≠1→(c.H.set 1 (.row (v+1) (R.length - 1) (Q7 I 0 (R.eraseIdx i))))[k]?=c.H[k]?:=fun k hk=>by simp [Ne.symm hk]
  have hinf':inf (c.H.set 1 (.row (v+1) (R.length - 1) (Q7 I 0 (R.eraseIdx i)))) 1=some (v+1):=by simp [inf,hset,AO.info]
  obtain ⟨g1,g2⟩:=Ap (c:=c) (c':=⟨Go.Sort.putRow MM (Go.Sort.ahead c.w q) b 0 d,c.S,c.γ,c.H.set 1 (.row (v+1) (R.length - 1) (Q7 I 0 (R.eraseIdx i)))⟩) hr
   (id:=1) (ver:=v+1) (n:=R.length - 1) (b:=b) (sz:=sz) hset hoth rfl hg' (fun _ _=>rfl) (RE (Go.Sort.ahead c.w q) b d cs el (0,0) hh) (hcs2.trans hcs) (by omega)
   (fun b' hb' _=>Gb (Go.Sort.ahead c.w q) b b' d hb') (by simp) rfl rfl rfl (.inr ⟨_,_,ho,rfl,hg'⟩) (.inr (.inr ⟨v,hinf,.inl (by omega)⟩)) (fun j hj=>by
    have e1:(Go.Sort.putCells MM 0 d cs).getD j undef=MM d[j]!:=by
     have h1:j<cs.size:=by omega
     have h2:j<d.size:=by omega
     simp [Go.Sort.putCells,Array.getD_eq_getD_getElem?,h1,h2]
    rw [e1,hdj j hj]
    exact .int _ _)
  rw [hH] at hinf' g1 g2
  rw [show R.length - (i+1 - i)=R.length - 1 by omega]
  exact ⟨_,_,_,rfl,.osl 1 (v+1) 1 0 (R.length - 1) cap b sz hinf' hg' (by omega) hcap hmx,g1,g2⟩
def zs (R:List Nat):List Int:=R.map fun n:Nat=>(n:Int)
theorem Xj (R:List Nat):(zs R).length=R.length:=by unfold zs; rw [List.length_map]
theorem Bj (R:List Nat) (j:Nat):(zs R).getD j 0=((R.getD j 0:Nat):Int):=by
 unfold zs
 rw [List.getD_eq_getElem?_getD,List.getElem?_map,List.getD_eq_getElem?_getD]
 cases R[j]? <;> rfl
theorem Tz (R:List Nat) (i:Nat):(zs R).eraseIdx i=zs (R.eraseIdx i):=by
 unfold zs
 apply List.ext_getElem?
 intro j
 simp only [List.getElem?_eraseIdx,List.getElem?_map]
 split <;> rfl
def kV (L:List V2) (R:List Nat):AV:=.ptr 2 (Xn [Xp L,X7 (zs R)]) 0
theorem Q4 (L:List V2) (R:List Nat):kV L R=.ptr 2 (Xn [Xp L,X7 (zs R)]) 0:=nrfl rfl
theorem B7 (L:List V2) (R:List Nat):Settled (kV L R):=J0 fun j hj=>by
 match j,hj with
 | 0,_=>exact Xc L
 | 1,_=>exact X6 _
 | j+2,h=>omega
def sY (L:List V2) (R:List Nat):AV:=.ptr 1 (Xn [kV L R]) 0
theorem Pa (L:List V2) (R:List Nat):sY L R=.ptr 1 (Xn [kV L R]) 0:=nrfl rfl
theorem Ea (L:List V2) (R:List Nat):Settled (sY L R):=J0 fun j hj=>by
 obtain rfl:j=0:=by omega
 exact B7 L R
def nr (R:List Nat) (m:Nat):Nat:=R.getD (m % R.length) 0
theorem qz (R:List Nat) (m:Nat):(zs R).getD (m % R.length) 0=((nr R m:Nat):Int):=Bj R _
structure Rok (L:List V2) (R:List Nat):Prop where
 pos:0<R.length
 len:R.length<1000000
 mem:∀ j,R.getD j 0<L.length
 lenL:L.length<1000000
theorem L4 (L:List V2) (R:List Nat) (k:Int) (m:Nat) (h:Rok L R) (hk:k+R.length=m) (hm:m<10000000) (h1:-10≤k) (h2:k<10000000):Fn Tryz.prog 295 [I k,sY L R] (I (nr R m)):=by
 obtain ⟨h0,hn,hmem,hL⟩:=h
 refine Fq Tryz.call295 Tryz.func295 4 [] [] [] (by simp [Ea,X9]) (Xl ?_)
 have w1:IntKind.i64.wrap (k+R.length)=(m:Int):=by rw [IntKind.wrap_i64]; omega
 have hmod:(m:Int).tmod R.length=((m % R.length:Nat):Int):=rfl
 have hlt:m % R.length<R.length:=Nat.mod_lt _ h0
 have f1:(((m % R.length:Nat):Int)<R.length)=True:=eq_true (by omega)
 have f2:(m % R.length<R.length)=True:=eq_true hlt
 have f3:(m % R.length+1≤R.length)=True:=eq_true (by omega)
 have f6:((R.length:Int)=0)=False:=eq_false (by omega)
 have f6':(R.length=0)=False:=eq_false (by omega)
 have w2:IntKind.i64.wrap (((m % R.length:Nat):Int))=((m % R.length:Nat):Int):=by rw [IntKind.wrap_i64]; omega
 have v1:=qz R m
 simp only [AS.start,Pa,Q4,X3,Xj,w1,w2,hmod,f1,f2,f3,f6,f6',v1,Int.toNat_natCast,↓X1,wF,seval]
 exact Xt rfl rfl (X9 _) rfl
theorem H3 (L:List V2) (R:List Nat) (p:Nat) (h:Rok L R) (hp:p<1000000):Fn Tryz.prog 289 [kV L R,I p] (.tup [I (nr R (p+R.length - 1)),I (nr R (p+R.length+1))]):=by
 have c1:=L4 L R ((p:Int) - 1) (p+R.length - 1) h (by have:=h.pos; omega) (by have:=h.len; omega) (by omega) (by omega)
 have c2:=L4 L R ((p:Int)+1) (p+R.length+1) h (by omega) (by have:=h.len; omega) (by omega) (by omega)
 have w1:IntKind.i64.wrap ((p:Int) - 1)=(p:Int) - 1:=by rw [IntKind.wrap_i64]; omega
 have w2:IntKind.i64.wrap ((p:Int)+1)=(p:Int)+1:=by rw [IntKind.wrap_i64]; omega
 have hl:SeesL [.row 0 1 (Xn [.ptr 2 (Xn [Xp L,X7 (zs R)]) 0])] ([.ref 0 0 0]:List AV) [sY L R]:=⟨Za (.inl rfl) (by omega) (fun j hj=>by
  obtain rfl:j=0:=by omega
  exact (B7 L R).sees _),trivial⟩
 refine Fq Tryz.call289 Tryz.func289 7 [] [] [] (by simp [B7,X9]) (Xl ?_)
 simp only [AS.start,Q4,w1,w2,↓X1,wF,seval]
 refine JS c1 rfl ⟨QL (X9 _) rfl,hl⟩ (Cy _ _) ?_
 simp only [w1,w2,↓X1,wF,seval]
 refine JS c2 rfl ⟨QL (X9 _) rfl,hl⟩ (Cy _ _) ?_
 simp only [w1,w2,↓X1,wF,seval]
 exact SK rfl rfl rfl (X9 _) (X9 _) rfl rfl
def Ht (L:List V2) (R:List Nat) (p:Nat):Int:=Ji (L.getD (nr R (p+R.length - 1)) v0) (L.getD (R.getD p 0) v0) (L.getD (nr R (p+R.length+1)) v0)
theorem WN (L:List V2) (R:List Nat) (p k:Nat) (h:Rok L R) (hp:p<R.length) (hs:Q2 L k) (hk:k≤10000):Fn Tryz.prog 288 [kV L R,I p] (I (Ht L R p)):=by
 have c1:=H3 L R p h (by have:=h.len; omega)
 have c2:=ZH (L.getD (nr R (p+R.length - 1)) v0) (L.getD (R.getD p 0) v0) (L.getD (nr R (p+R.length+1)) v0) (by have:=hs (nr R (p+R.length - 1)); unfold vs; omega) (by have:=hs (R.getD p 0); unfold vs; omega) (by have:=hs (nr R (p+R.length+1)); unfold vs; omega)
 obtain ⟨h0,hn,hmem,hL⟩:=h
 have m1:=hmem ((p+R.length - 1) % R.length)
 have m2:=hmem ((p+R.length+1) % R.length)
 have m3:=hmem p
 change nr R (p+R.length - 1)<L.length at m1
 change nr R (p+R.length+1)<L.length at m2
 unfold Ht
 generalize nr R (p+R.length - 1)=a at *
 generalize nr R (p+R.length+1)=c at *
 have v2:=Bj R p
 generalize R.getD p 0=b at *
 have f1:((p:Int)<R.length)=True:=eq_true (by omega)
 have f2:(p<R.length)=True:=eq_true hp
 have f3:(p+1≤R.length)=True:=eq_true (by omega)
 have a1:((a:Int)<L.length)=True:=eq_true (by omega)
 have a2:(a<L.length)=True:=eq_true m1
 have a3:(a*8+8≤L.length*8)=True:=eq_true (by omega)
 have b1:((b:Int)<L.length)=True:=eq_true (by omega)
 have b2:(b<L.length)=True:=eq_true m3
 have b3:(b*8+8≤L.length*8)=True:=eq_true (by omega)
 have e1:((c:Int)<L.length)=True:=eq_true (by omega)
 have e2:(c<L.length)=True:=eq_true m2
 have e3:(c*8+8≤L.length*8)=True:=eq_true (by omega)
 have va:=vF L a
 have vb:=vF L b
 have vc:=vF L c
 refine Fq Tryz.call288 Tryz.func288 7 [] [] [] (by simp [B7,X9]) (Xl ?_)
 simp only [AS.start,Q4,X4,X3,↓X1,wF,seval]
 refine X0 c1 rfl ?_
 simp only [Q4,X4,X3,Xj,f1,f2,f3,a1,a2,a3,b1,b2,b3,e1,e2,e3,va,vb,vc,v2,Int.toNat_natCast,↓X1,wF,seval]
 refine X0 c2 rfl ?_
 simp only [↓X1,wF,seval]
 exact Xt rfl rfl (X9 _) rfl
theorem iF (s:List Int) (v:Int) (hl:s.length<1048576):Fn Tryz.prog 297 [X7 s,I v] (I (I8 (fun x=>decide (v=x)) s)):=by
 refine Fr Tryz.call297 Tryz.func297 6 [6,7,8] [] [] ?_
 simp only [AS.start,X3,↓X1,wF,seval]
 refine Xe (fun j:Nat=>⟨6,[6,7,8],[X7 s,I v,.any,.any,.any,.any],[(6,X7 s),(7,I s.length),(8,I j)],[]⟩) (fun j=>j≤s.length∧∀ i,i<j→(fun x=>decide (v=x)) (s.getD i 0)=false) (fun j=>s.length - j) 0 ⟨by omega,by omega⟩
  (Xi rfl (by simp [Xf,X3,I]) (by simp [Xq,Xw,X3,I]) rfl) ?_
 rintro j ⟨hj,hno⟩ next
 have w1:=wj j (by omega)
 refine Xl ?_
 simp only [X3,w1,↓X1,wF,seval]
 refine ⟨fun h=>⟨h,h,?_⟩,fun h=>Xt (v:=I (-1)) rfl rfl (X9 _) ?_⟩
 ·refine ⟨fun ht=>Xt (v:=I j) rfl rfl (X9 _) ?_,fun hf=>next (j+1) _ ⟨by omega,fun i hi=>?_⟩ (by omega) (Xi rfl ?_ ?_ rfl)⟩
  ·rw [Gc h (decide_eq_true ht) hno]
  ·by_cases e:i=j
   ·rw [e]; exact decide_eq_false hf
   ·exact hno i (by omega)
  ·simp [Xf,X3,I]
  ·simp [Xq,Xw,X3,I]
 ·rw [Hg fun i hi=>hno i (by omega)]
def V4 (R:List Nat) (x:Int):Nat:=(I8 (fun y=>decide (x=y)) (zs R)).toNat
theorem OY {R:List Nat} (hd:R.Nodup) {p:Nat} (hp:p<R.length):I8 (fun y=>decide (((R.getD p 0:Nat):Int)=y)) (zs R)=p:=by
 have at_:∀ i (hi:i<R.length),R.getD i 0=R[i]:=fun i hi=>by rw [List.getD_eq_getElem?_getD,List.getElem?_eq_getElem hi]; rfl
 refine Gc (by rw [Xj]; exact hp) (by rw [Bj]; simp) fun i hi=>?_
 rw [Bj]
 refine decide_eq_false fun e=>?_
 rw [at_ i (by omega),at_ p hp] at e
 have e2:R[p]=R[i]:=by omega
 have:=(List.getElem_inj (i:=p) (j:=i) (h₀:=hp) (h₁:=by omega) hd).1 e2
 omega
theorem ap (L:List V2) (R:List Nat) (x:Int) (k:Nat) (h:Rok L R) (hd:R.Nodup) (hx:x∈zs R) (hs:Q2 L k) (hk:k≤10000):Fn Tryz.prog 296 [I x,sY L R] (.bool (decide (Ht L R (V4 R x)=0))):=by
 obtain ⟨p,hp,rfl⟩:∃ p,p<R.length∧((R.getD p 0:Nat):Int)=x:=by
  obtain ⟨i,hi,rfl⟩:=List.getElem_of_mem hx
  refine ⟨i,by rw [Xj] at hi; exact hi,?_⟩
  rw [← Bj,List.getD_eq_getElem?_getD,List.getElem?_eq_getElem hi]; rfl
 have c1:=iF (zs R) ((R.getD p 0:Nat):Int) (by rw [Xj]; have:=h.len; omega)
 have e:V4 R ((R.getD p 0:Nat):Int)=p:=by unfold V4; rw [OY hd hp]; rfl
 rw [OY hd hp] at c1
 rw [e]
 have c2:=WN L R p k h hp hs hk
 refine Fq Tryz.call296 Tryz.func296 4 [] [] [] (by simp [Ea,X9]) (Xl ?_)
 simp only [AS.start,Pa,Q4,X3,Xj,↓X1,wF,seval]
 refine X0 c1 (by simp only [X3,Xj]; rfl) ?_
 simp only [Pa,Q4,X3,Xj,↓X1,wF,seval]
 refine X0 c2 (by simp only [Q4,X3,Xj]; rfl) ?_
 simp only [↓X1,wF,seval]
 exact Xt rfl rfl (X2 _) rfl
def KY (L:List V2) (R:List Nat):Nat:=(List.range R.length).findIdx fun p=>decide (Ht L R p=0)
theorem Lr (L:List V2) (R:List Nat):KY L R≤R.length:=by
 have:=List.findIdx_le_length (xs:=List.range R.length) (p:=fun p=>decide (Ht L R p=0))
 rw [List.length_range] at this
 exact this
theorem Nk {L:List V2} {R:List Nat} (h:KY L R<R.length):Ht L R (KY L R)=0:=by
 have:=List.findIdx_getElem (xs:=List.range R.length) (p:=fun p=>decide (Ht L R p=0)) (w:=by rw [List.length_range]; exact h)
 rw [List.getElem_range] at this
 exact of_decide_eq_true this
theorem Ls {L:List V2} {R:List Nat} {p:Nat} (h:p<KY L R):Ht L R p≠0:=by
 have h2:=Lr L R
 have:=List.not_of_lt_findIdx (xs:=List.range R.length) (p:=fun p=>decide (Ht L R p=0)) (i:=p) h
 rw [List.getElem_range] at this
 exact of_decide_eq_false this
def Zi (L:List V2):Nat→List Nat→List Nat
 | 0,R=>R
 | f+1,R=>if 3<R.length∧KY L R<R.length then Zi L f (R.eraseIdx (KY L R)) else R
theorem mB {L:List V2} {R:List Nat} (hd:R.Nodup):I8 (fun x=>decide (Ht L R (V4 R x)=0)) (zs R)=if KY L R<R.length then ((KY L R:Nat):Int) else -1:=by
 have at_:∀ p,p<R.length→V4 R ((zs R).getD p 0)=p:=fun p hp=>by unfold V4; rw [Bj,OY hd hp]; rfl
 split
 ·rename_i h
  refine Gc (by rw [Xj]; exact h) ?_ fun i hi=>?_
  ·rw [at_ _ h]; exact decide_eq_true (Nk h)
  ·rw [at_ _ (by omega)]; exact decide_eq_false (Ls hi)
 ·rename_i h
  refine Hg fun i hi=>?_
  rw [Xj] at hi
  have:=Lr L R
  rw [at_ _ hi]; exact decide_eq_false (Ls (by omega))
def M3 (L:List V2) (N:Nat) (R:List Nat):List AO:=[.row 0 2 (Xn [Xp L,.osl 1 (N - R.length) 1 0 R.length]),.row (N - R.length) R.length (Q7 I 0 (zs R))]
theorem Jk (L:List V2) (N:Nat) (R:List Nat):M3 L N R=[.row 0 2 (Xn [Xp L,.osl 1 (N - R.length) 1 0 R.length]),.row (N - R.length) R.length (Q7 I 0 (zs R))]:=nrfl rfl
theorem KG (L:List V2) (N:Nat) (R:List Nat):Pt 2 (M3 L N R):=by
 refine ⟨rfl,fun o ho=>?_⟩
 have bL:JO 2 (Xp L)=True:=eq_true (X5 (Xc L))
 simp only [M3,List.mem_cons,List.not_mem_nil,or_false] at ho
 rcases ho with rfl | rfl
 ·exact ⟨by simp [XA,bL],by simp,by simp⟩
 ·exact ⟨fun j _=>X5 (X9 _),by simp,by simp⟩
theorem II {L:List V2} {N:Nat} {R:List Nat} {rest:List AO}:JR (M3 L N R ++ rest) (.ref 0 0 0) (kV L R):=Za (.inl rfl) (by omega) fun j hj=>by
 match j,hj with
 | 0,_=>exact (Xc L).sees _
 | 1,_ =>
  show JR _ (.osl 1 (N - R.length) 1 0 R.length) (X7 (zs R))
  have:=EN (l:=zs R) (H:=M3 L N R ++ rest) (id:=1) (ver:=N - R.length) (n:=R.length) rfl (by rw [Xj]; exact Nat.le_refl _)
  rw [Xj] at this
  exact this
 | j+2,h=>omega
theorem SW {L:List V2} {N:Nat} {R:List Nat} {rest:List AO}:JR (M3 L N R ++ rest) (.osl 1 (N - R.length) 1 0 R.length) (X7 (zs R)):=by
 have:=EN (l:=zs R) (H:=M3 L N R ++ rest) (id:=1) (ver:=N - R.length) (n:=R.length) rfl (by rw [Xj]; exact Nat.le_refl _)
 rw [Xj] at this
 exact this
theorem uV {P:Program} {fn:Func} {str hcs:List Nat} {m:Nat} {H:List AO} {s:AS} (hr:fn.results=#[]) (hH:s.h.take m=H):RetOk (MN P fn str hcs m (.tup []) H) s :=
 ⟨.tup [],by show Z9 P fn s=_; simp [Z9,hr,J7,Ag],rfl,hH⟩
theorem sU {P:Program} {fn:Func} {str hcs:List Nat} {m:Nat} {H:List AO} {s:AS} (hr:fn.results=#[]) (hH:s.h.take m=H):RetE (MN P fn str hcs m (.tup []) H) s :=
 ⟨.tup [],by show Z9 P fn s=_; simp [Z9,hr,J7,Ag],rfl,hH⟩
theorem Bv {L:List V2} {R:List Nat} {q:Nat} (h:Rok L R) (h3:3<R.length) (hq:q<R.length):Rok L (R.eraseIdx q):=by
 obtain ⟨h0,hn,hmem,hL⟩:=h
 have hlen:(R.eraseIdx q).length=R.length - 1:=by rw [List.length_eraseIdx,if_pos hq]
 refine ⟨by omega,by omega,fun j=>?_,hL⟩
 rw [List.getD_eq_getElem?_getD,List.getElem?_eraseIdx]
 split
 ·rw [← List.getD_eq_getElem?_getD]; exact hmem j
 ·rw [← List.getD_eq_getElem?_getD]; exact hmem (j+1)
theorem fQ (L:List V2) (N:Nat) (R0:List Nat) (k:Nat) (h:Rok L R0) (hd:R0.Nodup) (hN:R0.length≤N) (hs:Q2 L k) (hk:k≤10000):HCall Tryz.prog 291 [.ref 0 0 0] (M3 L N R0) (.tup []) (M3 L N (Zi L R0.length R0)):=by
 have bL:JO 3 (Xp L)=True:=eq_true (X5 (Xc L))
 refine HCall.introC (fn:=Tryz.f291) Tryz.call291 Tryz.func291 rfl mixed 3 [] [4,50000001,5004] [4] (by kernel_rfl) (Nat.le_of_ble_eq_true rfl) (X5 (T4 (by simp))) (fun o ho=>((KG _ _ _).2 o ho).1) (Xl ?_)
 simp only [AS.start,Jk,↓X1,wF,seval]
 refine Xe (fun R:List Nat=>⟨3,[],[.any,.ref 2 0 0,.any],[],M3 L N R ++ [.con 0 1 (Xn [.ref 0 0 0])]⟩) (fun R=>Rok L R∧R.Nodup∧R.length≤N∧Zi L R.length R=Zi L R0.length R0) (fun R=>R.length) R0 ⟨h,hd,hN,rfl⟩
  (Sub.trans (XX 2 rfl) (Jm (by simp [Xf]) (by simp [M3]))) ?_
 rintro R ⟨hR,hdR,hNR,hcl⟩ next
 have hR':=hR
 obtain ⟨h0,hn,hmem,hL⟩:=hR'
 by_cases h3:3<R.length
 rotate_left
 ·have e:Zi L R.length R=R:=by
   cases hl:R.length with
   | zero=>rfl
   | succ n=>unfold Zi; rw [if_neg (by omega)]
  rw [e] at hcl
  have f1:((3:Int)<R.length)=False:=eq_false (by omega)
  refine Xl ?_
  simp only [Jk,List.cons_append,List.nil_append,f1,↓X1,wF,seval]
  rw [← hcl]
  exact sU rfl rfl
 have f1:((3:Int)<R.length)=True:=eq_true (by omega)
 have ci:=Nu (zs R) 296 [sY L R] (fun x=>decide (Ht L R (V4 R x)=0)) (by rw [Xj]; omega) (fun a ha=>by rw [List.mem_singleton.1 ha]; exact Ea L R) (fun x hx=>ap L R x k hR hdR hx hs hk)
 rw [mB hdR] at ci
 have sB:JR (M3 L N R ++ [.con 0 1 (Xn [.ref 0 0 0])]) (.ref 2 0 0) (sY L R):=Za (.inr rfl) (by omega) fun j hj=>by
  obtain rfl:j=0:=by omega
  exact II
 by_cases hq:KY L R<R.length
 rotate_left
 ·have e:Zi L R.length R=R:=by
   cases hl:R.length with
   | zero=>rfl
   | succ n=>unfold Zi; rw [if_neg (by omega)]
  rw [e] at hcl
  rw [if_neg hq] at ci
  refine Xl ?_
  simp only [Jk,List.cons_append,List.nil_append,f1,↓X1,wF,seval]
  refine JS ci rfl ⟨SW,Cg ⟨sB,trivial⟩,trivial⟩ (Cy _ _) ?_
  simp only [show ((-1:Int)<0)=True from eq_true (by omega),↓X1,wF,seval]
  rw [← hcl]
  exact uV rfl rfl
 rw [if_pos hq] at ci
 have hlq:∀ q,q<R.length→(R.eraseIdx q).length=R.length - 1:=fun q hq=>by rw [List.length_eraseIdx,if_pos hq]
 have ecl:Zi L R.length R=Zi L (R.eraseIdx (KY L R)).length (R.eraseIdx (KY L R)):=by
  rw [hlq _ hq]
  cases hl:R.length with
  | zero=>omega
  | succ n =>
   show (if 3<R.length∧KY L R<R.length then Zi L n (R.eraseIdx (KY L R)) else R)=_
   rw [if_pos ⟨h3,hq⟩]; rfl
 rw [ecl] at hcl
 generalize KY L R=q at *
 have hl:=hlq q hq
 have f2:((q:Int)<0)=False:=eq_false (by omega)
 have w1:=wj q (by omega)
 have cd:=Nb (.row 0 2 (Xn [Xp L,.osl 1 (N - R.length) 1 0 R.length])) (zs R) (N - R.length) q (by rw [Xj]; exact hq)
 rw [Xj,Tz] at cd
 refine Xl ?_
 simp only [Jk,List.cons_append,List.nil_append,f1,↓X1,wF,seval]
 refine JS ci rfl ⟨SW,Cg ⟨sB,trivial⟩,trivial⟩ (Cy _ _) ?_
 simp only [w1,f2,↓X1,wF,seval]
 have o2:∀ o∈[AO.row 0 2 (Xn [Xp L,.osl 1 (N - R.length) 1 0 R.length]),.row (N - R.length+1) (R.length - 1) (Q7 I 0 (zs (R.eraseIdx q)))],o≠.unborn∧∀ v n f,o≠.con v n f:=fun o ho=>by
  simp only [List.mem_cons,List.not_mem_nil,or_false] at ho
  rcases ho with rfl | rfl <;> exact ⟨by simp,by simp⟩
 have bA:∀ a∈[AV.osl 1 (N - R.length) 1 0 R.length,I q,I ((q+1:Nat):Int)],JO 2 a:=fun a ha=>by
  simp only [List.mem_cons,List.not_mem_nil,or_false] at ha
  rcases ha with rfl | rfl | rfl
  ·exact Il (by omega)
  ·exact X5 (X9 _)
  ·exact X5 (X9 _)
 refine CR (H1:=M3 L N R) (H1':=[AO.row 0 2 (Xn [Xp L,.osl 1 (N - R.length) 1 0 R.length]),.row (N - R.length+1) (R.length - 1) (Q7 I 0 (zs (R.eraseIdx q)))]) (rest:=[.con 0 1 (Xn [.ref 0 0 0])]) rfl cd rfl rfl bA (fun o ho=>((KG L N R).2 o ho).1) (fun o ho=>((KG L N R).2 o ho).2.1) (fun o ho=>(o2 o ho).1) (QX (fun o ho=>((KG L N R).2 o ho).2.2) (fun o ho=>(o2 o ho).2)) (XZ _) ?_
 simp only [List.cons_append,List.nil_append,↓X1,wF,seval]
 exact next (R.eraseIdx q) _ ⟨Bv hR h3 hq,hdR.eraseIdx q,by omega,hcl⟩ (by omega) (Jm (by simp [Xf]) (by rw [Jk,hl,show N - (R.length - 1)=N - R.length+1 by omega]; rfl))
def dH (a b c p:V2):Prop:=0≤Ji a b p∧0≤Ji b c p∧0≤Ji c a p
def AR (L:List V2) (a b c k:Nat):Prop:=k=a∨k=c∨k=b∨¬ dH (L.getD a v0) (L.getD b v0) (L.getD c v0) (L.getD k v0)
def B9 (L:List V2) (R:List Nat) (p:Nat):Bool:=decide (0<Ht L R p∧∀ j,j<R.length→AR L (nr R (p+R.length - 1)) (R.getD p 0) (nr R (p+R.length+1)) (R.getD j 0))
def Ig (A B C:V2):AV:=.sl 3 24 (Xn [.bool (decide (A.x.num<0)),X7 (X8 A.x.num.natAbs),.bool false,X7 (X8 (qd A.x)),.bool (decide (A.y.num<0)),X7 (X8 A.y.num.natAbs),.bool false,X7 (X8 (qd A.y)),.bool (decide (B.x.num<0)),X7 (X8 B.x.num.natAbs),.bool false,X7 (X8 (qd B.x)),.bool (decide (B.y.num<0)),X7 (X8 B.y.num.natAbs),.bool false,X7 (X8 (qd B.y)),.bool (decide (C.x.num<0)),X7 (X8 C.x.num.natAbs),.bool false,X7 (X8 (qd C.x)),.bool (decide (C.y.num<0)),X7 (X8 C.y.num.natAbs),.bool false,X7 (X8 (qd C.y))]) true
theorem XY (A B C:V2):Ig A B C=.sl 3 24 (Xn [.bool (decide (A.x.num<0)),X7 (X8 A.x.num.natAbs),.bool false,X7 (X8 (qd A.x)),.bool (decide (A.y.num<0)),X7 (X8 A.y.num.natAbs),.bool false,X7 (X8 (qd A.y)),.bool (decide (B.x.num<0)),X7 (X8 B.x.num.natAbs),.bool false,X7 (X8 (qd B.x)),.bool (decide (B.y.num<0)),X7 (X8 B.y.num.natAbs),.bool false,X7 (X8 (qd B.y)),.bool (decide (C.x.num<0)),X7 (X8 C.x.num.natAbs),.bool false,X7 (X8 (qd C.x)),.bool (decide (C.y.num<0)),X7 (X8 C.y.num.natAbs),.bool false,X7 (X8 (qd C.y))]) true:=nrfl rfl
theorem rE (L:List V2) (R:List Nat) (p k:Nat) (h:Rok L R) (hp:p<R.length) (hs:Q2 L k) (hk:k≤10000):Fn Tryz.prog 274 [kV L R,I p] (.bool (B9 L R p)):=by
 have c1:=WN L R p k h hp hs hk
 have c2:=H3 L R p h (by have:=h.len; omega)
 obtain ⟨h0,hn,hmem,hL⟩:=h
 have m1:=hmem ((p+R.length - 1) % R.length)
 have m2:=hmem ((p+R.length+1) % R.length)
 have m3:=hmem p
 change nr R (p+R.length - 1)<L.length at m1
 change nr R (p+R.length+1)<L.length at m2
 have hear:B9 L R p=decide (0<Ht L R p∧∀ j,j<R.length→AR L (nr R (p+R.length - 1)) (R.getD p 0) (nr R (p+R.length+1)) (R.getD j 0)):=rfl
 generalize B9 L R p=E at *
 generalize Ht L R p=S at *
 generalize nr R (p+R.length - 1)=a at *
 generalize nr R (p+R.length+1)=c at *
 have v2:=Bj R p
 generalize R.getD p 0=b at *
 have f1:((p:Int)<R.length)=True:=eq_true (by omega)
 have f2:(p<R.length)=True:=eq_true hp
 have f3:(p+1≤R.length)=True:=eq_true (by omega)
 have a1:((a:Int)<L.length)=True:=eq_true (by omega)
 have a2:(a<L.length)=True:=eq_true m1
 have a3:(a*8+8≤L.length*8)=True:=eq_true (by omega)
 have b1:((b:Int)<L.length)=True:=eq_true (by omega)
 have b2:(b<L.length)=True:=eq_true m3
 have b3:(b*8+8≤L.length*8)=True:=eq_true (by omega)
 have e1:((c:Int)<L.length)=True:=eq_true (by omega)
 have e2:(c<L.length)=True:=eq_true m2
 have e3:(c*8+8≤L.length*8)=True:=eq_true (by omega)
 have va:=vF L a
 have vb:=vF L b
 have vc:=vF L c
 refine Fq Tryz.call274 Tryz.func274 11 [52,53,54,77,78,79] [] [] (by simp [B7,X9]) (Xl ?_)
 simp only [AS.start,Q4,X4,X3,↓X1,wA,↓reduceIte,reduceIte,reduceCtorEq,Y1,Y2,Y3,Y4,Y5,Y6,Y7,Y8,Y9,YA,wE]
 refine X0 c1 rfl ?_
 by_cases hS:S≤0
 ·have g1:(S≤0)=True:=eq_true hS
  have hE:E=false:=by rw [hear]; exact decide_eq_false fun hh=>by omega
  simp only [Q4,X4,X3,g1,↓X1,wA,↓reduceIte,reduceIte,reduceCtorEq,Y1,Y2,Y3,Y4,Y5,Y6,Y7,Y8,Y9,YA,wE]
  exact Xt (v:=.bool false) rfl rfl (X2 _) (by rw [hE])
 have g1:(S≤0)=False:=eq_false hS
 simp only [Q4,X4,X3,g1,↓X1,wA,↓reduceIte,reduceIte,reduceCtorEq,Y1,Y2,Y3,Y4,Y5,Y6,Y7,Y8,Y9,YA,wE]
 refine X0 c2 rfl ?_
 simp only [Q4,X4,X3,Xj,f1,f2,f3,a1,a2,a3,b1,b2,b3,e1,e2,e3,va,vb,vc,v2,Int.toNat_natCast,↓X1,wA,↓reduceIte,reduceIte,reduceCtorEq,Y1,Y2,Y3,Y4,Y5,Y6,Y7,Y8,Y9,YA,wE]
 have sA:=hs a
 have sB:=hs b
 have sC:=hs c
 generalize hA:L.getD a v0=A at *
 generalize hB:L.getD b v0=B at *
 generalize hC:L.getD c v0=C at *
 have hfree:∀ q,AR L a b c q=(q=a∨q=c∨q=b∨¬ dH A B C (L.getD q v0)):=fun q=>by unfold AR; rw [hA,hB,hC]
 refine Xe (fun j:Nat=>⟨11,[52,53,54,77,78,79],[kV L R,I p,.any,.any,.any,I a,I c,Ig A B C,.any,.any,.any],[(52,X7 (zs R)),(53,I R.length),(54,I j)],[]⟩) (fun j=>j≤R.length∧∀ i,i<j→AR L a b c (R.getD i 0)) (fun j=>R.length - j) 0 ⟨by omega,fun i hi=>absurd hi (Nat.not_lt_zero i)⟩
  (Xi rfl (by simp [Xf,Q4,X4,X3,Xj,XY,I]) (by simp [Xq,Xw,X3,Xj,I]) rfl) ?_
 rintro j ⟨hj,hno⟩ next
 have w1:=wj j (by omega)
 by_cases hj2:j<R.length
 rotate_left
 ·obtain rfl:j=R.length:=by omega
  have hE:E=true:=by rw [hear]; exact decide_eq_true ⟨by omega,hno⟩
  refine Xl ?_
  simp only [Q4,X4,X3,Xj,XY,Int.lt_irrefl,Nat.lt_irrefl,↓X1,wA,↓reduceIte,reduceIte,reduceCtorEq,Y1,Y2,Y3,Y4,Y5,Y6,Y7,Y8,Y9,YA,wE]
  exact Xt (v:=.bool true) rfl rfl (X2 _) (by rw [hE])
 have k1:((j:Int)<R.length)=True:=eq_true (by omega)
 have k2:(j<R.length)=True:=eq_true hj2
 have k3:(j+1≤R.length)=True:=eq_true (by omega)
 have v3:=Bj R j
 have m4:=hmem j
 have nx:=next (j+1)
 have hgo:=fun hfr=>KJ.2 (show (∀ i,i<j→AR L a b c (R.getD i 0))∧AR L a b c (R.getD j 0) from ⟨hno,hfr⟩)
 have hstop:¬ AR L a b c (R.getD j 0)→E=false:=fun hb=>by rw [hear]; exact decide_eq_false fun hh=>hb (hh.2 j hj2)
 rw [hfree] at hgo hstop
 generalize R.getD j 0=q at *
 have sQ:=hs q
 by_cases q1:q=a
 ·have g1:((q:Int)=(a:Int))=True:=eq_true (by omega)
  refine Xl ?_
  simp only [Q4,X4,X3,Xj,XY,w1,f1,f2,f3,v2,k1,k2,k3,v3,g1,Int.toNat_natCast,↓X1,wA,↓reduceIte,reduceIte,reduceCtorEq,Y1,Y2,Y3,Y4,Y5,Y6,Y7,Y8,Y9,YA,wE]
  exact nx _ ⟨by omega,hgo (.inl q1)⟩ (by omega) (Xi rfl (by simp [Xf,Q4,X4,X3,Xj,XY,I]) (by simp [Xq,Xw,X3,Xj,I]) rfl)
 have g1':((q:Int)=(a:Int))=False:=eq_false (by omega)
 by_cases q2:q=c
 ·have g2:((q:Int)=(c:Int))=True:=eq_true (by omega)
  refine Xl ?_
  simp only [Q4,X4,X3,Xj,XY,w1,f1,f2,f3,v2,k1,k2,k3,v3,g1',g2,Int.toNat_natCast,↓X1,wA,↓reduceIte,reduceIte,reduceCtorEq,Y1,Y2,Y3,Y4,Y5,Y6,Y7,Y8,Y9,YA,wE]
  exact nx _ ⟨by omega,hgo (.inr (.inl q2))⟩ (by omega) (Xi rfl (by simp [Xf,Q4,X4,X3,Xj,XY,I]) (by simp [Xq,Xw,X3,Xj,I]) rfl)
 have g2':((q:Int)=(c:Int))=False:=eq_false (by omega)
 by_cases q3:q=b
 ·have g3:((q:Int)=(b:Int))=True:=eq_true (by omega)
  refine Xl ?_
  simp only [Q4,X4,X3,Xj,XY,w1,f1,f2,f3,v2,k1,k2,k3,v3,g1',g2',g3,Int.toNat_natCast,↓X1,wA,↓reduceIte,reduceIte,reduceCtorEq,Y1,Y2,Y3,Y4,Y5,Y6,Y7,Y8,Y9,YA,wE]
  exact nx _ ⟨by omega,hgo (.inr (.inr (.inl q3)))⟩ (by omega) (Xi rfl (by simp [Xf,Q4,X4,X3,Xj,XY,I]) (by simp [Xq,Xw,X3,Xj,I]) rfl)
 have g3':((q:Int)=(b:Int))=False:=eq_false (by omega)
 refine Xl ?_
 simp only [Q4,X4,X3,Xj,XY,w1,f1,f2,f3,v2,k1,k2,k3,v3,g1',g2',g3',Int.toNat_natCast,↓X1,wA,↓reduceIte,reduceIte,reduceCtorEq,Y1,Y2,Y3,Y4,Y5,Y6,Y7,Y8,Y9,YA,wE]
 have x1:((q:Int)<L.length)=True:=eq_true (by omega)
 have x2:(q<L.length)=True:=eq_true m4
 have x3:(q*8+8≤L.length*8)=True:=eq_true (by omega)
 have vq:=vF L q
 generalize hQ:L.getD q v0=Q at *
 have z0:((0:Int)<3)=True:=eq_true (by omega)
 have z1:((1:Int)<3)=True:=eq_true (by omega)
 have z2:((2:Int)<3)=True:=eq_true (by omega)
 have z3:((3:Int)<3)=False:=eq_false (by omega)
 have t1:IntKind.i64.wrap (0+1)=1:=rfl
 have t2:IntKind.i64.wrap (1+1)=2:=rfl
 have t3:IntKind.i64.wrap (2+1)=3:=rfl
 have r1:(1:Int).tmod 3=1:=rfl
 have r2:(2:Int).tmod 3=2:=rfl
 have r3:(3:Int).tmod 3=0:=rfl
 have c3:((3:Nat):Int)=3:=rfl
 have d0:Int.toNat 0=0:=rfl
 have d1:Int.toNat 1=1:=rfl
 have d2:Int.toNat 2=2:=rfl
 have c11:((1:Nat):Int)=1:=rfl
 have c22:((2:Nat):Int)=2:=rfl
 have n3:((3:Int)=0)=False:=eq_false (by omega)
 have p0:((0:Int)≤0)=True:=eq_true (by omega)
 have p1:((0:Int)≤1)=True:=eq_true (by omega)
 have p2:((0:Int)≤2)=True:=eq_true (by omega)
 have o1:IntKind.i64.wrap 1=1:=rfl
 have o2:IntKind.i64.wrap 2=2:=rfl
 have o3:IntKind.i64.wrap 0=0:=rfl
 refine Xe (fun i:Nat=>⟨11,[52,53,54,77,78,79],[kV L R,I p,.any,.any,.any,I a,I c,Ig A B C,.any,I q,.any],[(77,Ig A B C),(78,I 3),(79,I i),(52,X7 (zs R)),(53,I R.length),(54,I j)],[]⟩) (fun i=>i≤3∧((0<i→0≤Ji A B Q)∧(1<i→0≤Ji B C Q)∧(2<i→0≤Ji C A Q))) (fun i=>3 - i) 0 ⟨by omega,by omega,by omega,by omega⟩
  (Xi rfl (by simp [Xf,Q4,X4,X3,Xj,XY,I]) (by simp [Xq,Xw,X3,Xj,XY,I]) rfl) ?_
 rintro i ⟨hi,hin⟩ next2
 rcases (show i=0∨i=1∨i=2∨i=3 by omega) with rfl | rfl | rfl | rfl
 ·have cs:=ZH A B Q (by unfold vs; omega) (by unfold vs; omega) (by unfold vs; omega)
  have n2:=next2 1
  refine Xl ?_
  simp only [Q4,X4,X3,Xj,XY,w1,z0,z1,z2,z3,t1,t2,t3,x1,x2,x3,o1,o2,o3,c3,d0,d1,d2,c11,c22,n3,p0,p1,p2,not_false_eq_true,true_and,r1,r2,r3,vq,Int.toNat_natCast,↓X1,wA,↓reduceIte,reduceIte,reduceCtorEq,Y1,Y2,Y3,Y4,Y5,Y6,Y7,Y8,Y9,YA,wE]
  refine X0 cs rfl ?_
  by_cases hneg:Ji A B Q<0
  ·simp only [eq_true hneg,Q4,X4,X3,Xj,XY,w1,↓X1,wA,↓reduceIte,reduceIte,reduceCtorEq,Y1,Y2,Y3,Y4,Y5,Y6,Y7,Y8,Y9,YA,wE]
   exact nx _ ⟨by omega,hgo (.inr (.inr (.inr fun hh=>by unfold dH at hh; omega)))⟩ (by omega) (Xi rfl (by simp [Xf,Q4,X4,X3,Xj,XY,I]) (by simp [Xq,Xw,X3,Xj,I]) rfl)
  ·simp only [eq_false hneg,Q4,X4,X3,Xj,XY,w1,t1,t2,t3,↓X1,wA,↓reduceIte,reduceIte,reduceCtorEq,Y1,Y2,Y3,Y4,Y5,Y6,Y7,Y8,Y9,YA,wE]
   exact n2 _ ⟨by omega,by omega⟩ (by omega) (Xi rfl (by simp [Xf,Q4,X4,X3,Xj,XY,I]) (by simp [Xq,Xw,X3,Xj,XY,I]) rfl)
 ·have cs:=ZH B C Q (by unfold vs; omega) (by unfold vs; omega) (by unfold vs; omega)
  have n2:=next2 2
  refine Xl ?_
  simp only [Q4,X4,X3,Xj,XY,w1,z0,z1,z2,z3,t1,t2,t3,x1,x2,x3,o1,o2,o3,c3,d0,d1,d2,c11,c22,n3,p0,p1,p2,not_false_eq_true,true_and,r1,r2,r3,vq,Int.toNat_natCast,↓X1,wA,↓reduceIte,reduceIte,reduceCtorEq,Y1,Y2,Y3,Y4,Y5,Y6,Y7,Y8,Y9,YA,wE]
  refine X0 cs rfl ?_
  by_cases hneg:Ji B C Q<0
  ·simp only [eq_true hneg,Q4,X4,X3,Xj,XY,w1,↓X1,wA,↓reduceIte,reduceIte,reduceCtorEq,Y1,Y2,Y3,Y4,Y5,Y6,Y7,Y8,Y9,YA,wE]
   exact nx _ ⟨by omega,hgo (.inr (.inr (.inr fun hh=>by unfold dH at hh; omega)))⟩ (by omega) (Xi rfl (by simp [Xf,Q4,X4,X3,Xj,XY,I]) (by simp [Xq,Xw,X3,Xj,I]) rfl)
  ·simp only [eq_false hneg,Q4,X4,X3,Xj,XY,w1,t1,t2,t3,↓X1,wA,↓reduceIte,reduceIte,reduceCtorEq,Y1,Y2,Y3,Y4,Y5,Y6,Y7,Y8,Y9,YA,wE]
   exact n2 _ ⟨by omega,by omega⟩ (by omega) (Xi rfl (by simp [Xf,Q4,X4,X3,Xj,XY,I]) (by simp [Xq,Xw,X3,Xj,XY,I]) rfl)
 ·have cs:=ZH C A Q (by unfold vs; omega) (by unfold vs; omega) (by unfold vs; omega)
  have n2:=next2 3
  refine Xl ?_
  simp only [Q4,X4,X3,Xj,XY,w1,z0,z1,z2,z3,t1,t2,t3,x1,x2,x3,o1,o2,o3,c3,d0,d1,d2,c11,c22,n3,p0,p1,p2,not_false_eq_true,true_and,r1,r2,r3,vq,Int.toNat_natCast,↓X1,wA,↓reduceIte,reduceIte,reduceCtorEq,Y1,Y2,Y3,Y4,Y5,Y6,Y7,Y8,Y9,YA,wE]
  refine X0 cs rfl ?_
  by_cases hneg:Ji C A Q<0
  ·simp only [eq_true hneg,Q4,X4,X3,Xj,XY,w1,↓X1,wA,↓reduceIte,reduceIte,reduceCtorEq,Y1,Y2,Y3,Y4,Y5,Y6,Y7,Y8,Y9,YA,wE]
   exact nx _ ⟨by omega,hgo (.inr (.inr (.inr fun hh=>by unfold dH at hh; omega)))⟩ (by omega) (Xi rfl (by simp [Xf,Q4,X4,X3,Xj,XY,I]) (by simp [Xq,Xw,X3,Xj,I]) rfl)
  ·simp only [eq_false hneg,Q4,X4,X3,Xj,XY,w1,t1,t2,t3,↓X1,wA,↓reduceIte,reduceIte,reduceCtorEq,Y1,Y2,Y3,Y4,Y5,Y6,Y7,Y8,Y9,YA,wE]
   exact n2 _ ⟨by omega,by omega⟩ (by omega) (Xi rfl (by simp [Xf,Q4,X4,X3,Xj,XY,I]) (by simp [Xq,Xw,X3,Xj,XY,I]) rfl)
 ·have hE:E=false:=hstop (by
   rintro (e | e | e | e)
   ·exact q1 e
   ·exact q2 e
   ·exact q3 e
   ·exact e ⟨hin.1 (by omega),hin.2.1 (by omega),hin.2.2 (by omega)⟩)
  refine Xl ?_
  simp only [Q4,X4,X3,Xj,XY,z3,c3,↓X1,wA,↓reduceIte,reduceIte,reduceCtorEq,Y1,Y2,Y3,Y4,Y5,Y6,Y7,Y8,Y9,YA,wE]
  exact Xt (v:=.bool false) rfl rfl (X2 _) (by rw [hE])
theorem F7 (i:Nat):zs (List.range (i+1))=zs (List.range i) ++ [(i:Int)]:=by unfold zs; rw [List.range_succ,List.map_append]; rfl
theorem r7 (L:List V2) (hl:L.length<1000000):HCall Tryz.prog 273 [Xp L] [] (.ref 0 0 0) (M3 L (2*L.length) (List.range L.length)):=by
 refine HCall.intro (fn:=Tryz.f273) Tryz.call273 Tryz.func273 rfl mixed 5 [8,9,10] [] [] (by kernel_rfl) (Nat.le_of_ble_eq_true rfl) (Xl ?_)
 simp only [AS.start,X4,↓X1,wF,seval]
 refine Xe (fun i:Nat=>⟨5,[8,9,10],[.any,.any,.any,.ref 0 0 0,.any],[(8,Xp L),(9,I L.length),(10,I i)],[.row 0 2 (Xn [Xp L,.osl 1 i 1 0 i]),.row i i (Q7 I 0 (zs (List.range i)))]⟩) (fun i=>i≤L.length) (fun i=>L.length - i) 0 (by omega)
  (Sub.trans (IK (Q7 I 0 (zs (List.range 0)))) (Sub.trans (ZM 0 (Xn [Xp L,.osl 1 0 1 0 0]) rfl (fun j hj=>by
   match j,hj with
   | 0,_=>exact QZ _ _
   | 1,_ =>
    show ZQ _ (.sl 0 0 (fun _=>.any) true) (.osl 1 0 1 0 0)
    exact Bp (n:=0) (f:=Q7 I 0 (zs (List.range 0))) rfl
   | j+2,h=>exact absurd h (by show ¬ j+2<2; omega))) (Xi rfl (by simp [Xf]) (by simp [Xq,Xw,X4,I]) rfl))) ?_
 intro i hi next
 have w1:=wj i (by omega)
 by_cases hi2:i<L.length
 rotate_left
 ·obtain rfl:i=L.length:=by omega
  refine Xl ?_
  simp only [X4,Int.lt_irrefl,Nat.lt_irrefl,↓X1,wF,seval]
  refine M2 rfl rfl ?_
  rw [Jk,List.length_range,show 2*L.length - L.length=L.length by omega,X4]
 have nx:=next (i+1)
 rw [F7] at nx
 have hz:(zs (List.range i)).length=i:=by rw [Xj,List.length_range]
 generalize zs (List.range i)=Z at *
 have f1:((i:Int)<L.length)=True:=eq_true (by omega)
 have f2:(i<L.length)=True:=eq_true hi2
 have hap:=CQ Z (i:Int)
 rw [hz] at hap
 refine Xl ?_
 simp only [X4,w1,f1,f2,Int.toNat_natCast,↓X1,wF,seval]
 exact ⟨⟨by omega,by omega⟩,nx _ (by omega) (by omega) (Xi rfl (by simp [Xf]) (by simp [Xq,Xw,X4,I]) (by rw [← hap]; rfl))⟩
theorem rz (L:List V2) (N:Nat) (R:List Nat) (p k:Nat) (h:Rok L R) (hd:R.Nodup) (hN:R.length≤N) (h3:3<R.length) (hp:p<R.length) (hs:Q2 L k) (hk:k≤10000) :
  HCall Tryz.prog 275 [.ref 0 0 0,I p] (M3 L N R) (.agg [I (nr R (p+R.length - 1)),I (R.getD p 0:Nat),I (nr R (p+R.length+1))]) (M3 L N (Zi L (R.length - 1) (R.eraseIdx p))):=by
 have c1:=H3 L R p h (by have:=h.len; omega)
 have cd:=Nb (.row 0 2 (Xn [Xp L,.osl 1 (N - R.length) 1 0 R.length])) (zs R) (N - R.length) p (by rw [Xj]; exact hp)
 rw [Xj,Tz] at cd
 have hl:(R.eraseIdx p).length=R.length - 1:=by rw [List.length_eraseIdx,if_pos hp]
 have cc:=fQ L N (R.eraseIdx p) k (Bv h h3 hp) (hd.eraseIdx p) (by omega) hs hk
 rw [hl] at cc
 have v2:=Bj R p
 have hR:=h
 obtain ⟨h0,hn,hmem,hL⟩:=hR
 generalize Zi L (R.length - 1) (R.eraseIdx p)=R2 at *
 generalize nr R (p+R.length - 1)=a at *
 generalize nr R (p+R.length+1)=c at *
 generalize R.getD p 0=b at *
 have f1:((p:Int)<R.length)=True:=eq_true (by omega)
 have f2:(p<R.length)=True:=eq_true hp
 have f3:(p+1≤R.length)=True:=eq_true (by omega)
 have w1:=wj p (by omega)
 refine HCall.introC (fn:=Tryz.f275) Tryz.call275 Tryz.func275 rfl mixed 8 [] [] [] (by kernel_rfl) (Nat.le_of_ble_eq_true rfl) (X5 (Qn (by simp [X9]))) (fun o ho=>((KG _ _ _).2 o ho).1) (Xl ?_)
 simp only [AS.start,Jk,List.cons_append,List.nil_append,↓X1,wF,seval]
 refine JS c1 rfl ⟨II (N:=N) (rest:=[.row 0 3 (Xn [I 0,I 0,I 0])]),QL (X9 _) rfl,trivial⟩ (gX (by simp [I,Cy])) ?_
 simp only [w1,f1,f2,f3,v2,Int.toNat_natCast,↓X1,wF,seval]
 have o2:∀ o∈[AO.row 0 2 (Xn [Xp L,.osl 1 (N - R.length) 1 0 R.length]),.row (N - R.length+1) (R.length - 1) (Q7 I 0 (zs (R.eraseIdx p)))],o≠.unborn∧∀ v n f,o≠.con v n f:=fun o ho=>by
  simp only [List.mem_cons,List.not_mem_nil,or_false] at ho
  rcases ho with rfl | rfl <;> exact ⟨by simp,by simp⟩
 have bA:∀ a∈[AV.osl 1 (N - R.length) 1 0 R.length,I p,I ((p+1:Nat):Int)],JO 2 a:=fun a ha=>by
  simp only [List.mem_cons,List.not_mem_nil,or_false] at ha
  rcases ha with rfl | rfl | rfl
  ·exact Il (by omega)
  ·exact X5 (X9 _)
  ·exact X5 (X9 _)
 have bR:∀ a∈[AV.ref 0 0 0],JO 2 a:=fun a ha=>by
  rw [List.mem_singleton.1 ha]
  have:JO 2 (.ref 0 0 0)=True:=by simp [XA]
  exact this▸trivial
 refine CR (H1:=M3 L N R) (H1':=[AO.row 0 2 (Xn [Xp L,.osl 1 (N - R.length) 1 0 R.length]),.row (N - R.length+1) (R.length - 1) (Q7 I 0 (zs (R.eraseIdx p)))]) (rest:=[.row 0 3 (Xn [I 0,I 0,I 0]),.row 0 3 (Xn [I a,I b,I c])]) rfl cd rfl rfl bA (fun o ho=>((KG L N R).2 o ho).1) (fun o ho=>((KG L N R).2 o ho).2.1) (fun o ho=>(o2 o ho).1) (QX (fun o ho=>((KG L N R).2 o ho).2.2) (fun o ho=>(o2 o ho).2)) (XZ _) ?_
 simp only [List.cons_append,List.nil_append,↓X1,wF,seval]
 refine CR (H1:=M3 L N (R.eraseIdx p)) (H1':=M3 L N R2) (rest:=[.row 0 3 (Xn [I 0,I 0,I 0]),.row 0 3 (Xn [I a,I b,I c])]) rfl cc (by rw [Jk,hl,show N - (R.length - 1)=N - R.length+1 by omega]; rfl) rfl bR (fun o ho=>((KG L N _).2 o ho).1) (fun o ho=>((KG L N _).2 o ho).2.1) (fun o ho=>((KG L N _).2 o ho).2.1) (QX (fun o ho=>((KG L N _).2 o ho).2.2) (fun o ho=>((KG L N _).2 o ho).2.2)) (XZ _) ?_
 simp only [Jk,List.cons_append,List.nil_append,↓X1,wF,seval]
 exact WI (v:=.agg [I a,I b,I c]) rfl (by simp [AS.get,JP,iJ,rd,Qp,Xn,Af,I]) rfl rfl
def dJ (R:List Nat):AV:=.agg [X7 (zs R)]
theorem QK (R:List Nat):dJ R=.agg [X7 (zs R)]:=nrfl rfl
theorem A5 (R:List Nat):Settled (dJ R):=Qn (by simp [X6])
theorem ED (R:List Nat) (p:Nat) (k:Int) (m:Nat) (h0:0<R.length) (hn:R.length<1000000) (hk:p+k+R.length=m) (hp:p<1000000) (h1:-10≤k) (h2:k≤10):Fn Tryz.prog 278 [dJ R,I p,I k] (I (nr R m)):=by
 have w1:IntKind.i64.wrap ((p:Int)+k)=(p:Int)+k:=by rw [IntKind.wrap_i64]; omega
 have w2:IntKind.i64.wrap ((p:Int)+k+R.length)=(m:Int):=by rw [IntKind.wrap_i64]; omega
 have hmod:(m:Int).tmod R.length=((m % R.length:Nat):Int):=rfl
 have hlt:m % R.length<R.length:=Nat.mod_lt _ h0
 have f1:(((m % R.length:Nat):Int)<R.length)=True:=eq_true (by omega)
 have f2:(m % R.length<R.length)=True:=eq_true hlt
 have f3:(m % R.length+1≤R.length)=True:=eq_true (by omega)
 have f6:((R.length:Int)=0)=False:=eq_false (by omega)
 have f6':(R.length=0)=False:=eq_false (by omega)
 have w3:IntKind.i64.wrap (((m % R.length:Nat):Int))=((m % R.length:Nat):Int):=by rw [IntKind.wrap_i64]; omega
 have v1:=qz R m
 refine Fq Tryz.call278 Tryz.func278 8 [] [] [] (by simp [A5,X9]) (Xl ?_)
 simp only [AS.start,QK,X3,Xj,w1,w2,w3,hmod,f1,f2,f3,f6,f6',v1,Int.toNat_natCast,↓X1,wF,seval]
 exact Xt rfl rfl (X9 _) rfl
theorem SO (L:List V2) (R:List Nat) (p k:Nat) (h:Rok L R) (hp:p<R.length) (hs:Q2 L k) (hk:k≤10000):Fn Tryz.prog 292 [Xp L,dJ R,I p] (I (Ht L R p)):=by
 have c1:=ED R p (-1) (p+R.length - 1) h.pos h.len (by have:=h.pos; omega) (by have:=h.len; omega) (by omega) (by omega)
 have c3:=ED R p 1 (p+R.length+1) h.pos h.len (by omega) (by have:=h.len; omega) (by omega) (by omega)
 have c2:=AZ (L.getD (nr R (p+R.length - 1)) v0) (L.getD (R.getD p 0) v0) (L.getD (nr R (p+R.length+1)) v0) (by have:=hs (nr R (p+R.length - 1)); unfold vs; omega) (by have:=hs (R.getD p 0); unfold vs; omega) (by have:=hs (nr R (p+R.length+1)); unfold vs; omega)
 obtain ⟨h0,hn,hmem,hL⟩:=h
 have m1:=hmem ((p+R.length - 1) % R.length)
 have m2:=hmem ((p+R.length+1) % R.length)
 have m3:=hmem p
 change nr R (p+R.length - 1)<L.length at m1
 change nr R (p+R.length+1)<L.length at m2
 unfold Ht
 generalize nr R (p+R.length - 1)=a at *
 generalize nr R (p+R.length+1)=c at *
 have v2:=Bj R p
 generalize R.getD p 0=b at *
 have f1:((p:Int)<R.length)=True:=eq_true (by omega)
 have f2:(p<R.length)=True:=eq_true hp
 have f3:(p+1≤R.length)=True:=eq_true (by omega)
 have a1:((a:Int)<L.length)=True:=eq_true (by omega)
 have a2:(a<L.length)=True:=eq_true m1
 have a3:(a*8+8≤L.length*8)=True:=eq_true (by omega)
 have b1:((b:Int)<L.length)=True:=eq_true (by omega)
 have b2:(b<L.length)=True:=eq_true m3
 have b3:(b*8+8≤L.length*8)=True:=eq_true (by omega)
 have e1:((c:Int)<L.length)=True:=eq_true (by omega)
 have e2:(c<L.length)=True:=eq_true m2
 have e3:(c*8+8≤L.length*8)=True:=eq_true (by omega)
 have va:=vF L a
 have vb:=vF L b
 have vc:=vF L c
 refine Fq Tryz.call292 Tryz.func292 7 [] [] [] (by simp [Xc,A5,X9]) (Xl ?_)
 simp only [AS.start,QK,X4,X3,Xj,↓X1,wF,seval]
 refine X0 c1 (by simp only [QK,X3,Xj]; rfl) ?_
 simp only [QK,X4,X3,Xj,f1,f2,f3,a1,a2,a3,b1,b2,b3,e1,e2,e3,va,vb,vc,v2,Int.toNat_natCast,↓X1,wF,seval]
 refine X0 c3 (by simp only [QK,X3,Xj]; rfl) ?_
 simp only [QK,X4,X3,Xj,f1,f2,f3,a1,a2,a3,b1,b2,b3,e1,e2,e3,va,vb,vc,v2,Int.toNat_natCast,↓X1,wF,seval]
 refine X0 c2 rfl ?_
 simp only [↓X1,wF,seval]
 exact Xt rfl rfl (X9 _) rfl
theorem sX (a b c q:V2) (ha:vb a≤vs) (hb:vb b≤vs) (hc:vb c≤vs) (hq:vb q≤vs):Fn Tryz.prog 293 [vA a,vA b,vA c,vA q] (.bool (decide (dH a b c q))):=by
 have c1:=AZ a b q ha hb hq
 have c2:=AZ b c q hb hc hq
 have c3:=AZ c a q hc ha hq
 have hin:decide (dH a b c q)=decide (0≤Ji a b q∧0≤Ji b c q∧0≤Ji c a q):=decide_eq_decide.2 Iff.rfl
 generalize decide (dH a b c q)=E at *
 generalize Ji a b q=x at *
 generalize Ji b c q=y at *
 generalize Ji c a q=z at *
 refine Fr Tryz.call293 Tryz.func293 9 [] [] [] ?_
 simp only [AS.start,↓X1,wF,seval]
 refine X0 c1 rfl ?_
 by_cases h1:0≤x
 rotate_left
 ·have g1:(0≤x)=False:=eq_false h1
  have hE:E=false:=by rw [hin]; exact decide_eq_false (fun h=>h1 h.1)
  simp only [g1,↓X1,wF,seval]
  exact Xt (v:=.bool false) rfl rfl (X2 _) (by rw [hE])
 have g1:(0≤x)=True:=eq_true h1
 simp only [g1,↓X1,wF,seval]
 refine X0 c2 rfl ?_
 by_cases h2:0≤y
 rotate_left
 ·have g2:(0≤y)=False:=eq_false h2
  have hE:E=false:=by rw [hin]; exact decide_eq_false (fun h=>h2 h.2.1)
  simp only [g1,g2,↓X1,wF,seval]
  exact Xt (v:=.bool false) rfl rfl (X2 _) (by rw [hE])
 have g2:(0≤y)=True:=eq_true h2
 simp only [g1,g2,↓X1,wF,seval]
 refine X0 c3 rfl ?_
 by_cases h3:0≤z
 rotate_left
 ·have g3:(0≤z)=False:=eq_false h3
  have hE:E=false:=by rw [hin]; exact decide_eq_false (fun h=>h3 h.2.2)
  simp only [g1,g2,g3,↓X1,wF,seval]
  exact Xt (v:=.bool false) rfl rfl (X2 _) (by rw [hE])
 have g3:(0≤z)=True:=eq_true h3
 have hE:E=true:=by rw [hin]; exact decide_eq_true ⟨h1,h2,h3⟩
 simp only [g1,g2,g3,↓X1,wF,seval]
 exact Xt (v:=.bool true) rfl rfl (X2 _) (by rw [hE])
theorem Tc {R:List Nat} {i:Nat} (h:i<R.length):R.take (i+1)=R.take i ++ [R.getD i 0]:=by
 rw [List.take_add_one,List.getD_eq_getElem?_getD,List.getElem?_eq_getElem h]; rfl
theorem gL {R:List Nat} {i:Nat} (h:i<R.length):(R.take (i+1)).eraseIdx i=R.take i:=by
 have hl:(R.take i).length=i:=by rw [List.length_take]; omega
 rw [Tc h,List.eraseIdx_append_of_length_le (by omega),hl,Nat.sub_self]
 simp
theorem gK {R:List Nat} {i p:Nat} (h:i<R.length) (hp:i≠p):(R.take (i+1)).eraseIdx p=(R.take i).eraseIdx p ++ [R.getD i 0]:=by
 have hl:(R.take i).length=i:=by rw [List.length_take]; omega
 rw [Tc h]
 by_cases hlt:p<i
 ·rw [List.eraseIdx_append_of_lt_length (by omega)]
 ·rw [List.eraseIdx_of_length_le (by simp; omega),List.eraseIdx_of_length_le (by omega)]
theorem pQ (R:List Nat) (x:Nat):zs (R ++ [x])=zs R ++ [(x:Int)]:=by unfold zs; rw [List.map_append]; rfl
theorem Ms (R:List Nat) (p:Nat) (hn:R.length<1000000) (hp:p<1000000):Fn Tryz.prog 280 [dJ R,I p] (dJ (R.eraseIdx p)):=by
 have s0:∀ v n l,XI 3 (.row v n (Q7 I 0 l))=True:=fun v n l=>eq_true fun j _=>X5 (X9 _)
 refine Fq Tryz.call280 Tryz.func280 7 [] [6,70000002,7001] [] (by simp [A5,X9]) (Xl ?_)
 simp only [AS.start,QK,X3,Xj,↓X1,wF,seval]
 refine Xe (fun i:Nat=>⟨7,[],[dJ R,I p,.ref 0 0 0,.any,.ref 1 0 0,.ref 2 0 0,I i],[],[.con 0 1 (Xn [X7 (zs R)]),.row 0 1 (Xn [.sl 0 0 (fun _=>.any) true]),.row 0 1 (Xn [.osl 3 ((R.take i).eraseIdx p).length 1 0 ((R.take i).eraseIdx p).length]),.row ((R.take i).eraseIdx p).length ((R.take i).eraseIdx p).length (Q7 I 0 (zs ((R.take i).eraseIdx p)))]⟩) (fun i=>i≤R.length) (fun i=>R.length - i) 0 (by omega)
  (Sub.trans (XX 0 rfl) ((Qr 2 1 (fun _=>.sl 0 0 (fun _=>.any) true) rfl (Nat.le_refl _) (fun j hj=>by have e:j=0:=Nat.lt_one_iff.1 hj; subst e; rfl)).trans ((BR 2 1 (Q7 I 0 []) rfl 1 (Nat.le_refl _)).trans ((Qr 2 1 (Xn [.osl 3 0 1 0 0]) rfl (Nat.le_refl _) (fun j hj=>by have e:j=0:=Nat.lt_one_iff.1 hj; subst e; rfl)).trans (Jm (by simp [Xf,QK,X3,Xj,I]) (by simp [X3,Xj,zs])))))) ?_
 intro i hi next
 have w1:=wj i (by omega)
 by_cases hi2:i<R.length
 rotate_left
 ·obtain rfl:i=R.length:=by omega
  rw [List.take_length] at *
  refine Xl ?_
  simp only [QK,X3,Xj,Int.lt_irrefl,Nat.lt_irrefl,↓X1,wF,seval]
  have hz:=EN (l:=zs (R.eraseIdx p)) (H:=[.con 0 1 (Xn [.sl R.length R.length (Q7 I 0 (zs R)) false]),.row 0 1 (Xn [.osl 3 (R.eraseIdx p).length 1 0 (R.eraseIdx p).length]),.row 0 1 (Xn [.osl 3 (R.eraseIdx p).length 1 0 (R.eraseIdx p).length]),.row (R.eraseIdx p).length (R.eraseIdx p).length (Q7 I 0 (zs (R.eraseIdx p)))]) (id:=3) (ver:=(R.eraseIdx p).length) (n:=(R.eraseIdx p).length) rfl (by rw [Xj]; exact Nat.le_refl _)
  rw [Xj] at hz
  exact BO (v:=.agg [.osl 3 (R.eraseIdx p).length 1 0 (R.eraseIdx p).length]) rfl (by simp [AS.get,JP,OO,rd,Qp,Xn,Af]) (ZK ⟨hz,trivial⟩)
 have f1:((i:Int)<R.length)=True:=eq_true (by omega)
 have f2:(i<R.length)=True:=eq_true hi2
 have f3:(i+1≤R.length)=True:=eq_true (by omega)
 have v1:=Bj R i
 have nx:=next (i+1)
 by_cases hip:i=p
 ·subst hip
  have g1:((i:Int)=(i:Int))=True:=eq_true rfl
  have e0:(R.take i).eraseIdx i=R.take i:=List.eraseIdx_of_length_le (by rw [List.length_take]; omega)
  rw [gL hi2] at nx
  rw [e0]
  refine Xl ?_
  simp only [QK,X3,Xj,w1,f1,f2,f3,v1,g1,Int.toNat_natCast,↓X1,wF,seval]
  exact nx _ (by omega) (by omega) (Jm (by simp [Xf,QK,X3,Xj,I]) (by simp [X3,Xj]))
 ·have g1:((i:Int)=(p:Int))=False:=eq_false (by omega)
  have hle:((R.take i).eraseIdx p).length≤R.length:=by
   have:=List.length_eraseIdx_le (R.take i) p
   rw [List.length_take] at this; omega
  rw [gK hi2 hip,pQ,List.length_append,List.length_singleton] at nx
  generalize (R.take i).eraseIdx p=W at *
  have hap:=CQ (zs W) ((R.getD i 0:Nat):Int)
  rw [Xj] at hap
  refine Xl ?_
  simp only [QK,X3,Xj,w1,f1,f2,f3,v1,g1,Int.toNat_natCast,↓X1,wF,seval]
  exact ⟨⟨by omega,by omega⟩,nx _ (by omega) (by omega) (Jm (by simp [Xf,QK,X3,Xj,I]) (by rw [← hap]; simp [X3,Xj,I]))⟩
theorem wH {a b:Int} (h:a<b):(a<b)=True:=eq_true h
theorem vJ {a b:Int} (h:b≤a):(a<b)=False:=eq_false (by omega)
theorem wC {a b:Int} (h:a≤b):(a≤b)=True:=eq_true h
theorem vH {a b:Int} (h:b<a):(a≤b)=False:=eq_false (by omega)
theorem wB {a b:Int} (h:a=b):(a=b)=True:=eq_true h
theorem vG {a b:Int} (h:a≠b):(a=b)=False:=eq_false h
theorem wJ {a b:Nat} (h:a<b):(a<b)=True:=eq_true h
theorem vW {a b:Nat} (h:b≤a):(a<b)=False:=eq_false (by omega)
theorem wI {a b:Nat} (h:a≤b):(a≤b)=True:=eq_true h
theorem vV {a b:Nat} (h:b<a):(a≤b)=False:=eq_false (by omega)
theorem vS {a b:Nat} (h:a=b):(a=b)=True:=eq_true h
theorem vU {a b:Nat} (h:a≠b):(a=b)=False:=eq_false h
theorem ul {x:Int} (h:-9223372036854775808≤x∧x<9223372036854775808):IntKind.i64.wrap x=x:=by rw [IntKind.wrap_i64]; omega
theorem vK {n:Nat}:(n:Int).toNat=n:=Int.toNat_natCast n
theorem ve (f:Nat→AV) (i:Nat) (v:AV) (j:Nat):C0 f i v j=if j=i then v else f j:=nrfl rfl
def dm (l:List AV) (i:Nat) (a:AV):Nat→AV:=C0 (Xn l) i a
def W2 (x:AV) (f:Nat→AV):Nat→AV:=fun j=>match j with | 0=>x | j+1=>f j
theorem tp (l:List AV) (i:Nat) (a:AV):C0 (Xn l) i a=dm l i a:=nrfl rfl
theorem tr (x a:AV) (l:List AV):dm (x :: l) 0 a=Xn (a :: l):=by
 funext j; unfold dm C0 Xn; cases j <;> simp
theorem tq (x a:AV) (l:List AV) (n:Nat):dm (x :: l) (n+1) a=W2 x (dm l n a):=by
 funext j; unfold dm C0 Xn W2; cases j <;> simp
theorem mF (x:AV) (l:List AV):W2 x (Xn l)=Xn (x :: l):=by
 funext j; unfold Xn W2; cases j <;> simp
def sg (x:Rat):Bool:=decide (x.num<0)
theorem wo (x:Rat):decide (x.num<0)=sg x:=nrfl rfl
set_option linter.defProp false in
def wD:=And.intro @ve (And.intro @tp <| And.intro @tr <| And.intro @tq <| And.intro @mF <| And.intro @wH (And.intro @vJ (And.intro @wC (And.intro @vH (And.intro @wB (And.intro @vG (And.intro @wJ (And.intro @vW (And.intro @wI (And.intro @vV (And.intro @vS (And.intro @vU (And.intro @ul @vK)))))))))))))
set_option linter.defProp false in
def Xu:=And.intro @wo X1
set_option linter.defProp false in
def wG:=And.intro wD wF
def tC (d:Nat×Nat×Nat):List AV:=[I d.1,I d.2.1,I d.2.2]
theorem FF (d:Nat×Nat×Nat):∀ x∈tC d,Settled x:=by simp [tC,X9]
def kf (l:List (Nat×Nat×Nat)):AV:=tL tC 3 (0,0,0) l
theorem Ao (l:List (Nat×Nat×Nat)):kf l=.sl l.length (l.length*3) (Xs tC 3 (0,0,0) l) false:=nrfl rfl
theorem HZ (l:List (Nat×Nat×Nat)):Settled (kf l):=J8 fun j _=>Xb (FF _) _
def G0 (L:List V2) (R:List Nat):Nat:=(List.range (R.length - 1)).findIdx (B9 L R)
theorem Wa (L:List V2) (R:List Nat):G0 L R≤R.length - 1:=by
 have:=List.findIdx_le_length (xs:=List.range (R.length - 1)) (p:=B9 L R)
 rwa [List.length_range] at this
theorem W9 {L:List V2} {R:List Nat} {p:Nat} (h1:p≤R.length - 1) (h2:∀ j,j<p→B9 L R j=false) (h3:p=R.length - 1∨B9 L R p=true):G0 L R=p:=by
 have hle:=Wa L R
 rcases Nat.lt_trichotomy (G0 L R) p with h | h | h
 ·have:=List.findIdx_getElem (xs:=List.range (R.length - 1)) (p:=B9 L R) (w:=by rw [List.length_range]; unfold G0 at h; omega)
  rw [List.getElem_range] at this
  have h4:=h2 _ h
  unfold G0 at h4
  rw [h4] at this; cases this
 ·exact h
 ·rcases h3 with h3 | h3
  ·omega
  ·have:=List.not_of_lt_findIdx (xs:=List.range (R.length - 1)) (p:=B9 L R) (i:=p) h
   rw [List.getElem_range,h3] at this
   exact absurd this (by simp)
def EQ (R:List Nat) (p:Nat):Nat×Nat×Nat:=(nr R (p+R.length - 1),R.getD p 0,nr R (p+R.length+1))
def BW (L:List V2) (R:List Nat):List Nat:=Zi L (R.length - 1) (R.eraseIdx (G0 L R))
def BA (L:List V2):Nat→List Nat→List (Nat×Nat×Nat)
 | 0,R=>[(R.getD 0 0,R.getD 1 0,R.getD 2 0)]
 | f+1,R=>if 3<R.length then EQ R (G0 L R) :: BA L f (BW L R) else [(R.getD 0 0,R.getD 1 0,R.getD 2 0)]
def BV (L:List V2):List (Nat×Nat×Nat):=BA L L.length (List.range L.length)
theorem fR (L:List V2):∀ (f:Nat) (R:List Nat),Rok L R→R.Nodup→3≤R.length→Rok L (Zi L f R)∧(Zi L f R).Nodup∧3≤(Zi L f R).length∧(Zi L f R).length≤R.length
 | 0,R,h,hd,h3=>⟨h,hd,h3,Nat.le_refl _⟩
 | f+1,R,h,hd,h3=>by
  unfold Zi
  split
  ·rename_i hc
   have hl:(R.eraseIdx (KY L R)).length=R.length - 1:=by rw [List.length_eraseIdx,if_pos hc.2]
   obtain ⟨a1,a2,a3,a4⟩:=fR L f _ (Bv h hc.1 hc.2) (hd.eraseIdx _) (by omega)
   exact ⟨a1,a2,a3,by omega⟩
  ·exact ⟨h,hd,h3,Nat.le_refl _⟩
theorem Eo {L:List V2} {R:List Nat} (h:Rok L R) (hd:R.Nodup) (h3:3<R.length):Rok L (BW L R)∧(BW L R).Nodup∧3≤(BW L R).length∧(BW L R).length≤R.length - 1:=by
 have hp:G0 L R<R.length:=by have:=Wa L R; omega
 have hl:(R.eraseIdx (G0 L R)).length=R.length - 1:=by rw [List.length_eraseIdx,if_pos hp]
 obtain ⟨a1,a2,a3,a4⟩:=fR L (R.length - 1) _ (Bv h h3 hp) (hd.eraseIdx _) (by omega)
 exact ⟨a1,a2,a3,by unfold BW; omega⟩
theorem Na (L:List V2):∀ (f g:Nat) (R:List Nat),Rok L R→R.Nodup→R.length≤f→R.length≤g→BA L f R=BA L g R
 | 0,g,R,h,_,hf,_=>by have:=h.pos; omega
 | f+1,0,R,h,_,_,hg=>by have:=h.pos; omega
 | f+1,g+1,R,h,hd,hf,hg=>by
  unfold BA
  split
  ·rename_i h3
   obtain ⟨a1,a2,a3,a4⟩:=Eo h hd h3
   rw [Na L f g _ a1 a2 (by omega) (by omega)]
  ·rfl
theorem W4 {L:List V2} {R:List Nat} (h:Rok L R) (hd:R.Nodup) (h3:3<R.length):BA L R.length R=EQ R (G0 L R) :: BA L (BW L R).length (BW L R):=by
 obtain ⟨a1,a2,a3,a4⟩:=Eo h hd h3
 cases hl:R.length with
 | zero=>omega
 | succ n =>
  show (if 3<R.length then _ else _)=_
  rw [if_pos h3,Na L n (BW L R).length _ a1 a2 (by omega) (Nat.le_refl _)]
theorem Ra {L:List V2} {R:List Nat} (h3:¬ 3<R.length) (f:Nat):BA L f R=[(R.getD 0 0,R.getD 1 0,R.getD 2 0)]:=by
 cases f with
 | zero=>rfl
 | succ n=>unfold BA; rw [if_neg h3]
theorem AD {L:List V2} (h:3≤L.length) (hl:L.length<1000000):Rok L (List.range L.length):=⟨by rw [List.length_range]; omega,by rw [List.length_range]; omega,fun j=>by
 rw [List.getD_eq_getElem?_getD]
 by_cases hj:j<L.length
 ·rw [List.getElem?_range hj]; exact hj
 ·rw [List.getElem?_eq_none (by rw [List.length_range]; omega)]; show 0<L.length; omega,hl⟩
theorem WW {P:Program} {fn:Func} {str hcs:List Nat} {s:AS} {t u id ver:Nat} {e:AV} (D:List (Nat×Nat×Nat)) (hr:fn.results=#[.tmp t,.tmp u]) (hs:s.get t=.osl id ver 3 0 D.length) (ho:s.h[id]?=some (.row ver (D.length*3) (Xs tC 3 (0,0,0) D))) (hu:s.get u=e) (he:Settled e):RetOk (QJ P fn str hcs (.tup [kf D,e])) s:=by
 refine SJ hr (ZL ⟨?_,QL he hu,trivial⟩)
 rw [hs,Ao]
 refine Qx (.inl ho) (by omega) (fun h=>by rw [h]) fun j hj=>?_
 rw [Nat.zero_add]
 exact (Xb (FF _) _).sees _
theorem Pl (c:Nat×Nat×Nat):∀ j,j<3→((tC c).getD j .any).one=true:=fun j hj=>by
 match j,hj with
 | 0,_=>rfl
 | 1,_=>rfl
 | 2,_=>rfl
 | j+3,h=>omega
theorem my (L:List V2) (k:Nat) (hs:Q2 L k) (hk:k≤1000) (hp:D5 L):Fn Tryz.prog 263 [Xp L] (.tup [kf (BV L),I 0]):=by
 have hl:=hp.1
 have cv:=cG L (fun i=>Nat.le_trans (hs i) hk) (by omega)
 rw [decide_eq_true hp] at cv
 have ca:=r7 L (by omega)
 obtain ⟨T,hT⟩:∃ T,T=BV L:=⟨_,rfl⟩
 rw [← hT]
 have h0:=AD hl.1 (by omega)
 have d0:(List.range L.length).Nodup:=List.nodup_range
 refine Fq Tryz.call263 Tryz.func263 7 [] [] [3,9] (by simp [Xc]) (Xl ?_)
 simp only [AS.start,↓X1,wF,seval]
 refine X0 cv rfl ?_
 simp only [↓X1,wF,seval]
 refine KP rfl ca (QX (fun o h=>absurd h (List.not_mem_nil)) (fun o ho=>((KG _ _ _).2 o ho).2.2)) (fun id=>by simp) (XZ _) ?_
 have hlr:(List.range L.length).length=L.length:=List.length_range
 have hTc:T=BA L (List.range L.length).length (List.range L.length):=by rw [hT,hlr]; rfl
 generalize hN:2*L.length=N
 generalize List.range L.length=R0 at *
 simp only [Jk,↓X1,wF,seval]
 refine Xe (fun w:List (Nat×Nat×Nat)×List Nat=>⟨7,[],[Xp L,.any,.any,.any,.ref 0 0 0,.osl 2 w.1.length 3 0 w.1.length,.any],[],M3 L N w.2 ++ [.row w.1.length (w.1.length*3) (Xs tC 3 (0,0,0) w.1)]⟩) (fun w=>Rok L w.2∧w.2.Nodup∧3≤w.2.length∧w.1.length+w.2.length≤L.length∧w.1 ++ BA L w.2.length w.2=T) (fun w=>w.2.length) ([],R0) ⟨h0,d0,by show 3≤R0.length; omega,by simp [hlr],by rw [hTc]; rfl⟩
  (Sub.trans (Q5 5 3 (Xs tC 3 (0,0,0) []) rfl) (Xi rfl (by simp [AS.put,Xf]) (by simp [AS.put,Xq]) (by simp [AS.put,Jk]))) ?_
 rintro ⟨D,R⟩ ⟨h,hd,h3,hDl,hDT⟩ next
 replace h:Rok L R:=h
 replace hd:R.Nodup:=hd
 replace h3:3≤R.length:=h3
 replace hDl:D.length+R.length≤L.length:=hDl
 replace hDT:D ++ BA L R.length R=T:=hDT
 have hNR:R.length≤N:=by omega
 by_cases h4:3<R.length
 rotate_left
 ·have e3:R.length=3:=by omega
  rw [Ra h4] at hDT
  have hap:=XR tC 3 (0,0,0) D (R.getD 0 0,R.getD 1 0,R.getD 2 0) (by omega)
  rw [hDT] at hap
  have hTl:T.length=D.length+1:=by rw [← hDT]; simp
  refine Xl ?_
  simp (disch:=omega) only [Jk,List.cons_append,List.nil_append,Bj,Kl,wD,↓X1,wF,seval]
  exact ⟨Pl (R.getD 0 0,R.getD 1 0,R.getD 2 0),WW T rfl (by rw [hTl]; rfl) (by rw [hTl,← hap]; rfl) rfl (X9 _)⟩
 have hgo:=W4 h hd h4
 obtain ⟨b1,b2,b3,b4⟩:=Eo h hd h4
 refine Xl ?_
 simp (disch:=omega) only [Jk,List.cons_append,List.nil_append,wD,↓X1,wF,seval]
 refine Xe (fun p:Nat=>⟨7,[],[Xp L,.any,.any,.any,.ref 0 0 0,.osl 2 D.length 3 0 D.length,I p],[],M3 L N R ++ [.row D.length (D.length*3) (Xs tC 3 (0,0,0) D)]⟩) (fun p=>p≤R.length - 1∧∀ j,j<p→B9 L R j=false) (fun p=>R.length - p) 0 ⟨by omega,fun j hj=>absurd hj (Nat.not_lt_zero j)⟩
  (Jm (by simp [Xf,I]) (by simp [Jk])) ?_
 rintro p ⟨hp1,hno⟩ next2
 have hn:=h.len
 have ce:=rE L R p k h (by omega) hs (by omega)
 have cc:=rz L N R p k h hd hNR h4 (by omega) hs (by omega)
 have hlr:(R.eraseIdx p).length=R.length - 1:=by rw [List.length_eraseIdx,if_pos (by omega)]
 by_cases hgo2:p<R.length - 1∧B9 L R p=false
 ·refine Xl ?_
  simp (disch:=omega) only [Jk,List.cons_append,List.nil_append,wD,↓X1,wF,seval]
  refine JS ce rfl ⟨II,QL (X9 _) rfl,trivial⟩ (Ay _) ?_
  simp (disch:=omega) only [hgo2.2,Jk,List.cons_append,List.nil_append,wD,↓X1,wF,seval]
  exact next2 (p+1) _ ⟨by omega,KJ.2 ⟨hno,hgo2.2⟩⟩ (by omega) (Jm (by simp [Xf,I]) (by simp [Jk]))
 have hep:G0 L R=p:=W9 hp1 hno (by
  by_cases h1:p=R.length - 1
  ·exact .inl h1
  ·right
   cases he:B9 L R p with
   | true=>rfl
   | false=>exact absurd ⟨by omega,he⟩ hgo2)
 have hD:(D ++ [EQ R p]) ++ BA L (BW L R).length (BW L R)=T:=by rw [← hDT,hgo,hep,List.append_assoc]; rfl
 have hap:=XR tC 3 (0,0,0) D (EQ R p) (by omega)
 have hcs:Zi L (R.length - 1) (R.eraseIdx p)=BW L R:=by unfold BW; rw [hep]
 rw [hcs] at cc
 have hDn:(D ++ [EQ R p]).length=D.length+1:=by simp
 have nx:=next (D ++ [EQ R p],BW L R)
 rw [List.length_append,List.length_singleton] at nx
 have htr:tC (EQ R p)=[I (nr R (p+R.length - 1)),I (R.getD p 0:Nat),I (nr R (p+R.length+1))]:=rfl
 have hone:=Pl (EQ R p)
 rw [htr] at hap hone
 generalize D ++ [EQ R p]=D2 at *
 generalize BW L R=R2 at *
 generalize nr R (p+R.length - 1)=a at *
 generalize nr R (p+R.length+1)=c at *
 generalize R.getD p 0=b at *
 clear hgo hcs htr
 have bR:∀ a∈[AV.ref 0 0 0,I p],JO 2 a:=fun a ha=>by
  simp only [List.mem_cons,List.not_mem_nil,or_false] at ha
  rcases ha with rfl | rfl
  ·have:JO 2 (.ref 0 0 0)=True:=by simp [XA]
   exact this▸trivial
  ·exact X5 (X9 _)
 refine Xl ?_
 by_cases hl:p<R.length - 1
 have he:B9 L R p=true:=by
  cases he:B9 L R p with
  | true=>rfl
  | false=>exact absurd ⟨hl,he⟩ hgo2
 simp (disch:=omega) only [Jk,List.cons_append,List.nil_append,wD,↓X1,wF,seval]
 refine JS ce rfl ⟨II,QL (X9 _) rfl,trivial⟩ (Ay _) ?_
 simp (disch:=omega) only [he,Jk,List.cons_append,List.nil_append,wD,↓X1,wF,seval]
 rotate_left
 simp (disch:=omega) only [Jk,List.cons_append,List.nil_append,wD,↓X1,wF,seval]
 all_goals
  refine CR (H1:=M3 L N R) (H1':=M3 L N R2) (rest:=[.row D.length (D.length*3) (Xs tC 3 (0,0,0) D)]) rfl cc rfl rfl bR (fun o ho=>((KG L N R).2 o ho).1) (fun o ho=>((KG L N _).2 o ho).2.1) (fun o ho=>((KG L N _).2 o ho).2.1) (QX (fun o ho=>((KG L N _).2 o ho).2.2) (fun o ho=>((KG L N _).2 o ho).2.2)) (XZ _) ?_
  simp (disch:=omega) only [Jk,List.cons_append,List.nil_append,wD,↓X1,wF,seval]
  exact ⟨hone,nx _ ⟨b1,b2,b3,by show D.length+1+R2.length≤L.length; omega,hD⟩ (by show R2.length<R.length; omega) (Jm (by simp [Xf]) (by rw [← hap]; simp [Jk,I]))⟩
theorem oH (L:List V2) (R:List Nat) (p k:Nat) (h:Rok L R) (hp:p<R.length) (hs:Q2 L k) (hk:k≤10000):Fn Tryz.prog 277 [Xp L,dJ R,I p] (.bool (B9 L R p)):=by
 have c1:=SO L R p k h hp hs hk
 have c2:=ED R p (-1) (p+R.length - 1) h.pos h.len (by have:=h.pos; omega) (by have:=h.len; omega) (by omega) (by omega)
 have c3:=ED R p 1 (p+R.length+1) h.pos h.len (by omega) (by have:=h.len; omega) (by omega) (by omega)
 obtain ⟨h0,hn,hmem,hL⟩:=h
 have m1:=hmem ((p+R.length - 1) % R.length)
 have m2:=hmem ((p+R.length+1) % R.length)
 have m3:=hmem p
 change nr R (p+R.length - 1)<L.length at m1
 change nr R (p+R.length+1)<L.length at m2
 have hear:B9 L R p=decide (0<Ht L R p∧∀ j,j<R.length→AR L (nr R (p+R.length - 1)) (R.getD p 0) (nr R (p+R.length+1)) (R.getD j 0)):=rfl
 generalize B9 L R p=E at *
 generalize Ht L R p=S at *
 generalize nr R (p+R.length - 1)=a at *
 generalize nr R (p+R.length+1)=c at *
 have v2:=Bj R p
 generalize R.getD p 0=b at *
 have f1:((p:Int)<R.length)=True:=eq_true (by omega)
 have f2:(p<R.length)=True:=eq_true hp
 have f3:(p+1≤R.length)=True:=eq_true (by omega)
 have a1:((a:Int)<L.length)=True:=eq_true (by omega)
 have a2:(a<L.length)=True:=eq_true m1
 have a3:(a*8+8≤L.length*8)=True:=eq_true (by omega)
 have b1:((b:Int)<L.length)=True:=eq_true (by omega)
 have b2:(b<L.length)=True:=eq_true m3
 have b3:(b*8+8≤L.length*8)=True:=eq_true (by omega)
 have e1:((c:Int)<L.length)=True:=eq_true (by omega)
 have e2:(c<L.length)=True:=eq_true m2
 have e3:(c*8+8≤L.length*8)=True:=eq_true (by omega)
 have va:=vF L a
 have vb:=vF L b
 have vc:=vF L c
 refine Fq Tryz.call277 Tryz.func277 12 [] [] [] (by simp [Xc,A5,X9]) (Xl ?_)
 simp only [AS.start,QK,X4,X3,↓X1,wF,seval]
 refine X0 c1 rfl ?_
 by_cases hS:S≤0
 ·have g1:(S≤0)=True:=eq_true hS
  have hE:E=false:=by rw [hear]; exact decide_eq_false fun hh=>by omega
  simp only [QK,X4,X3,g1,↓X1,wF,seval]
  exact Xt (v:=.bool false) rfl rfl (X2 _) (by rw [hE])
 have g1:(S≤0)=False:=eq_false hS
 simp only [QK,X4,X3,g1,↓X1,wF,seval]
 refine X0 c2 rfl ?_
 simp only [QK,X4,X3,Xj,f1,f2,f3,v2,Int.toNat_natCast,↓X1,wF,seval]
 refine X0 c3 (by simp only [QK,X3,Xj]; rfl) ?_
 simp only [QK,X4,X3,Xj,↓X1,wF,seval]
 have sA:=hs a
 have sB:=hs b
 have sC:=hs c
 generalize hA:L.getD a v0=A at *
 generalize hB:L.getD b v0=B at *
 generalize hC:L.getD c v0=C at *
 have hfree:∀ q,AR L a b c q=(q=a∨q=c∨q=b∨¬ dH A B C (L.getD q v0)):=fun q=>by unfold AR; rw [hA,hB,hC]
 refine Xe (fun j:Nat=>⟨12,[],[Xp L,.any,.any,.any,.ref 0 0 0,.any,.any,I a,I b,I c,I j,.any],[],[.row 0 1 (Xn [X7 (zs R)])]⟩) (fun j=>j≤R.length∧∀ i,i<j→AR L a b c (R.getD i 0)) (fun j=>R.length - j) 0 ⟨by omega,fun i hi=>absurd hi (Nat.not_lt_zero i)⟩
  (Jm (by simp [Xf,X4,X3,Xj,I]) (by simp [X3,Xj])) ?_
 rintro j ⟨hj,hno⟩ next
 have w1:=wj j (by omega)
 by_cases hj2:j<R.length
 rotate_left
 ·obtain rfl:j=R.length:=by omega
  have hE:E=true:=by rw [hear]; exact decide_eq_true ⟨by omega,hno⟩
  refine Xl ?_
  simp only [X4,X3,Xj,Int.lt_irrefl,Nat.lt_irrefl,↓X1,wF,seval]
  exact Xt (v:=.bool true) rfl rfl (X2 _) (by rw [hE])
 have k1:((j:Int)<R.length)=True:=eq_true (by omega)
 have k2:(j<R.length)=True:=eq_true hj2
 have k3:(j+1≤R.length)=True:=eq_true (by omega)
 have v3:=Bj R j
 have m4:=hmem j
 have nx:=next (j+1)
 have hgo:=fun hfr=>KJ.2 (show (∀ i,i<j→AR L a b c (R.getD i 0))∧AR L a b c (R.getD j 0) from ⟨hno,hfr⟩)
 have hstop:¬ AR L a b c (R.getD j 0)→E=false:=fun hb=>by rw [hear]; exact decide_eq_false fun hh=>hb (hh.2 j hj2)
 rw [hfree] at hgo hstop
 generalize R.getD j 0=q at *
 have sQ:=hs q
 have x1:((q:Int)<L.length)=True:=eq_true (by omega)
 have x2:(q<L.length)=True:=eq_true m4
 have x3:(q*8+8≤L.length*8)=True:=eq_true (by omega)
 have vq:=vF L q
 generalize hQ:L.getD q v0=Q at *
 have cin:=sX A B C Q (by unfold vs; omega) (by unfold vs; omega) (by unfold vs; omega) (by unfold vs; omega)
 by_cases q1:q=a
 ·have g1:((q:Int)=(a:Int))=True:=eq_true (by omega)
  refine Xl ?_
  simp only [X4,X3,Xj,w1,k1,k2,k3,v3,g1,Int.toNat_natCast,↓X1,wF,seval]
  exact nx _ ⟨by omega,hgo (.inl q1)⟩ (by omega) (Jm (by simp [Xf,X4,X3,Xj,I]) (by simp [X3,Xj]))
 have g1':((q:Int)=(a:Int))=False:=eq_false (by omega)
 by_cases q3:q=b
 ·have g3:((q:Int)=(b:Int))=True:=eq_true (by omega)
  refine Xl ?_
  simp only [X4,X3,Xj,w1,k1,k2,k3,v3,g1',g3,Int.toNat_natCast,↓X1,wF,seval]
  exact nx _ ⟨by omega,hgo (.inr (.inr (.inl q3)))⟩ (by omega) (Jm (by simp [Xf,X4,X3,Xj,I]) (by simp [X3,Xj]))
 have g3':((q:Int)=(b:Int))=False:=eq_false (by omega)
 by_cases q2:q=c
 ·have g2:((q:Int)=(c:Int))=True:=eq_true (by omega)
  refine Xl ?_
  simp only [X4,X3,Xj,w1,k1,k2,k3,v3,g1',g3',g2,Int.toNat_natCast,↓X1,wF,seval]
  exact nx _ ⟨by omega,hgo (.inr (.inl q2))⟩ (by omega) (Jm (by simp [Xf,X4,X3,Xj,I]) (by simp [X3,Xj]))
 have g2':((q:Int)=(c:Int))=False:=eq_false (by omega)
 refine Xl ?_
 simp only [X4,X3,Xj,w1,k1,k2,k3,v3,g1',g3',g2',a1,a2,a3,b1,b2,b3,e1,e2,e3,x1,x2,x3,va,vb,vc,vq,Int.toNat_natCast,↓X1,wF,seval]
 refine X0 cin rfl ?_
 by_cases hin:dH A B C Q
 ·have hE:E=false:=hstop (by
   rintro (e | e | e | e)
   ·exact q1 e
   ·exact q2 e
   ·exact q3 e
   ·exact e hin)
  simp only [decide_eq_true hin,↓X1,wF,seval]
  exact Xt (v:=.bool false) rfl rfl (X2 _) (by rw [hE])
 ·simp only [decide_eq_false hin,X4,X3,Xj,w1,↓X1,wF,seval]
  exact nx _ ⟨by omega,hgo (.inr (.inr (.inr hin)))⟩ (by omega) (Jm (by simp [Xf,X4,X3,Xj,I]) (by simp [X3,Xj]))
theorem kH (n:Nat) (hn:n<1000000):Fn Tryz.prog 276 [I n] (dJ (List.range n)):=by
 refine Fr Tryz.call276 Tryz.func276 5 [] [] [] ?_
 simp only [AS.start,↓X1,wF,seval]
 refine Xe (fun i:Nat=>⟨5,[],[I n,.any,.ref 0 0 0,.ref 1 0 0,I i],[],[.row 0 1 (Xn [.sl 0 0 (fun _=>.any) true]),.row 0 1 (Xn [.osl 2 i 1 0 i]),.row i i (Q7 I 0 (zs (List.range i)))]⟩) (fun i=>i≤n) (fun i=>n - i) 0 (by omega)
  (Sub.trans (Qr 1 1 (fun _=>.sl 0 0 (fun _=>.any) true) rfl (Nat.le_refl _) (fun j hj=>by have e:j=0:=Nat.lt_one_iff.1 hj; subst e; rfl)) ((BR 1 1 (Q7 I 0 []) rfl 1 (Nat.le_refl _)).trans ((Qr 1 1 (Xn [.osl 2 0 1 0 0]) rfl (Nat.le_refl _) (fun j hj=>by have e:j=0:=Nat.lt_one_iff.1 hj; subst e; rfl)).trans (Jm (by simp [Xf,I]) (by simp [zs]))))) ?_
 intro i hi next
 have w1:=wj i (by omega)
 by_cases hi2:i<n
 rotate_left
 ·obtain rfl:i=n:=by omega
  refine Xl ?_
  simp only [Int.lt_irrefl,Nat.lt_irrefl,↓X1,wF,seval]
  have hz:=EN (l:=zs (List.range i)) (H:=[.row 0 1 (Xn [.osl 2 i 1 0 i]),.row 0 1 (Xn [.osl 2 i 1 0 i]),.row i i (Q7 I 0 (zs (List.range i)))]) (id:=2) (ver:=i) (n:=i) rfl (by rw [Xj,List.length_range]; exact Nat.le_refl _)
  rw [Xj,List.length_range] at hz
  exact BO (v:=.agg [.osl 2 i 1 0 i]) rfl (by simp [AS.get,JP,OO,rd,Qp,Xn,Af]) (ZK ⟨hz,trivial⟩)
 have f1:((i:Int)<n)=True:=eq_true (by omega)
 have nx:=next (i+1)
 rw [F7] at nx
 have hz:(zs (List.range i)).length=i:=by rw [Xj,List.length_range]
 generalize zs (List.range i)=Z at *
 have hap:=CQ Z (i:Int)
 rw [hz] at hap
 refine Xl ?_
 simp only [w1,f1,Int.toNat_natCast,↓X1,wF,seval]
 exact ⟨⟨by omega,by omega⟩,nx _ (by omega) (by omega) (Jm (by simp [Xf,I]) (by rw [← hap]))⟩
theorem Ru {L:List V2} {R:List Nat} {p:Nat} (h1:p≤R.length) (h2:∀ j,j<p→Ht L R j≠0) (h3:p=R.length∨Ht L R p=0):KY L R=p:=by
 have hle:=Lr L R
 rcases Nat.lt_trichotomy (KY L R) p with h | h | h
 ·exact absurd (Nk (by omega)) (h2 _ h)
 ·exact h
 ·rcases h3 with h3 | h3
  ·omega
  ·exact absurd h3 (Ls h)
theorem rr {L:List V2} {R:List Nat} (h3:3<R.length) (hq:KY L R<R.length):Zi L R.length R=Zi L (R.eraseIdx (KY L R)).length (R.eraseIdx (KY L R)):=by
 rw [List.length_eraseIdx,if_pos hq]
 cases hl:R.length with
 | zero=>omega
 | succ n =>
  show (if 3<R.length∧KY L R<R.length then Zi L n (R.eraseIdx (KY L R)) else R)=_
  rw [if_pos ⟨h3,hq⟩]; rfl
theorem W0 {L:List V2} {R:List Nat} (h:¬ (3<R.length∧KY L R<R.length)):Zi L R.length R=R:=by
 cases hl:R.length with
 | zero=>rfl
 | succ n=>unfold Zi; rw [if_neg h]
theorem Uo (L:List V2) (R0:List Nat) (k:Nat) (h:Rok L R0) (hs:Q2 L k) (hk:k≤10000):Fn Tryz.prog 279 [Xp L,dJ R0] (dJ (Zi L R0.length R0)):=by
 refine Fq Tryz.call279 Tryz.func279 6 [] [] [] (by simp [Xc,A5]) (Xl ?_)
 simp only [AS.start,QK,X3,X4,↓X1,wF,seval]
 refine Xe (fun w:List Nat×Nat=>⟨6,[],[Xp L,.any,.any,.ref 0 0 0,.ref 1 0 0,I w.2],[],[.row 0 1 (Xn [X7 (zs w.1)]),.row 0 1 (Xn [.sl 0 0 (fun _=>.any) true])]⟩) (fun w=>Rok L w.1∧w.2≤w.1.length∧(∀ j,j<w.2→Ht L w.1 j≠0)∧Zi L w.1.length w.1=Zi L R0.length R0) (fun w=>2000000*w.1.length+(1000000 - w.2)) (R0,0) ⟨h,Nat.zero_le _,fun j hj=>absurd hj (Nat.not_lt_zero j),rfl⟩
  (Sub.trans (Qr 1 1 (Xn [.sl 0 0 (fun _=>.any) true]) rfl (Nat.le_refl _) (fun j hj=>by have e:j=0:=Nat.lt_one_iff.1 hj; subst e; rfl)) (Jm (by simp [Xf,X4,I]) (by simp [X3,Xj]))) ?_
 rintro ⟨R,p⟩ ⟨hR,hp,hno,hcl⟩ next
 replace hR:Rok L R:=hR
 replace hp:p≤R.length:=hp
 replace hno:∀ j,j<p→Ht L R j≠0:=hno
 replace hcl:Zi L R.length R=Zi L R0.length R0:=hcl
 have hn:=hR.len
 have w1:=wj p (by omega)
 by_cases hgo:3<R.length∧p<R.length
 rotate_left
 ·have e:Zi L R.length R=R:=by
   by_cases h3:3<R.length
   ·exact W0 fun hh=>by rw [Ru hp hno (.inl (by omega))] at hh; omega
   ·exact W0 fun hh=>h3 hh.1
  rw [e] at hcl
  rw [← hcl]
  have fin:∀ {s:AS},s.get 4=.ref 1 0 0→s.h=[.row 0 1 (Xn [X7 (zs R)]),.row 0 1 (Xn [X7 (zs R)])]→RetOk (QJ Tryz.prog Tryz.f279 [] [] (dJ R)) s:=fun h1 h2=>by
   refine BO (v:=.agg [X7 (zs R)]) rfl ?_ ?_
   ·rw [h1,h2]; simp [JP,OO,rd,Qp,Xn,Af]
   ·exact (A5 R).sees _
  by_cases h3:3<R.length
  ·obtain rfl:p=R.length:=by omega
   have f1:((3:Int)<R.length)=True:=eq_true (by omega)
   refine Xl ?_
   simp only [X4,X3,Xj,f1,Int.lt_irrefl,Nat.lt_irrefl,↓X1,wF,seval]
   exact fin rfl (by simp [X3,Xj])
  ·have f1:((3:Int)<R.length)=False:=eq_false (by omega)
   refine Xl ?_
   simp only [X4,X3,Xj,f1,↓X1,wF,seval]
   exact fin rfl (by simp [X3,Xj])
 obtain ⟨h3,hp2⟩:=hgo
 have cs:=SO L R p k hR hp2 hs hk
 have cw:=Ms R p hn (by omega)
 rw [QK,X3,Xj] at cs cw
 have f1:((3:Int)<R.length)=True:=eq_true (by omega)
 have f2:((p:Int)<R.length)=True:=eq_true (by omega)
 by_cases hz:Ht L R p=0
 ·have g1:(Ht L R p=0)=True:=eq_true hz
  have hf:=Ru hp hno (.inr hz)
  have hg:=rr (L:=L) h3 (by rw [hf]; exact hp2)
  rw [hf,hcl] at hg
  have hl:(R.eraseIdx p).length=R.length - 1:=by rw [List.length_eraseIdx,if_pos hp2]
  have nx:=next (R.eraseIdx p,0)
  refine Xl ?_
  simp only [X4,X3,Xj,f1,f2,w1,↓X1,wF,seval]
  refine X0 cs rfl ?_
  simp only [X4,X3,Xj,g1,↓X1,wF,seval]
  refine X0 cw rfl ?_
  simp only [QK,X4,X3,Xj,↓X1,wF,seval]
  exact nx _ ⟨Bv hR h3 hp2,Nat.zero_le _,fun j hj=>absurd hj (Nat.not_lt_zero j),hg.symm⟩ (by show 2000000*(R.eraseIdx p).length+(1000000 - 0)<2000000*R.length+(1000000 - p); omega) (Jm (by simp [Xf,X4,I]) (by simp [X3,Xj]))
 ·have g1:(Ht L R p=0)=False:=eq_false hz
  have nx:=next (R,p+1)
  refine Xl ?_
  simp only [X4,X3,Xj,f1,f2,w1,↓X1,wF,seval]
  refine X0 cs rfl ?_
  simp only [X4,X3,Xj,g1,w1,↓X1,wF,seval]
  exact nx _ ⟨hR,hp2,fun j hj=>by
    rcases Nat.lt_succ_iff_lt_or_eq.1 hj with h | h
    ·exact hno j h
    ·exact h▸hz,hcl⟩ (by show 2000000*R.length+(1000000 - (p+1))<2000000*R.length+(1000000 - p); omega) (Jm (by simp [Xf,X4,I]) (by simp [X3,Xj]))
end
end Go.Ab.N
