/- Contracts of functions of these chapters, for every argument that fits, and what they need. -/
import Derived.Test.YtefjhgcndhepeaaGreatC10
import Derived.Shelf.SlicesE.Delete
import Derived.Test.YtefjhgcndhepeaaGreatC3
import Derived.Test.YtefjhgcndhepeaaGreatC6
set_option linter.unusedSimpArgs false
set_option linter.unusedVariables false
open Nat renaming reducePow → Y1, reduceLT → Y2, reduceLeDiff → Y3, reduceEqDiff → Y4, reduceAdd → Y5, reduceMul → Y6, reduceSub → Y7, reduceBEq → Y8, reduceDiv → Y9, reduceMod → YA
namespace Go.Ab.N
open Go Go.RowKit Go.Proofs
noncomputable section
set_option maxRecDepth 10000
set_option maxHeartbeats 4000000
open Classical
noncomputable def mw (A B:List (List V2)) (e:Rat) (n:Nat):V2:=(A8 (A.getD (n / B.length) []) (B.getD (n % B.length) []) e).1
noncomputable def CL (A B:List (List V2)) (e:Rat) (n:Nat):List V2:=(List.range n).map (mw A B e)
theorem ga (A B:List (List V2)) (e:Rat) (n:Nat):(CL A B e n).length=n:=by unfold CL; rw [List.length_map,List.length_range]
theorem aq (A B:List (List V2)) (e:Rat) (n:Nat):CL A B e (n+1)=CL A B e n ++ [mw A B e n]:=by unfold CL; rw [List.range_succ,List.map_append]; rfl
theorem my (A B:List (List V2)) (e:Rat) (i k:Nat) (hk:k<B.length):mw A B e (i*B.length+k)=(A8 (A.getD i []) (B.getD k []) e).1:=by
 unfold mw
 rw [show i*B.length+k=k+B.length*i by rw [Nat.mul_comm,Nat.add_comm],Nat.add_mul_div_left _ _ (by omega),Nat.add_mul_mod_self_left,Nat.div_eq_of_lt hk,Nat.mod_eq_of_lt hk,Nat.zero_add]
def Gb (e:Rat) (W:List V2):List AO:=[.row 0 4 (Xk (qC e)),.row 0 1 (Xk [.sl 0 0 (fun _=>.any) true]),.row 0 1 (Xk [.bool false]),.row 0 1 (Xk [.osl 4 W.length 8 0 W.length]),.row W.length (W.length*8) (Xt vC 8 v0 W)]
theorem Ih (e:Rat) (W:List V2):Gb e W=[.row 0 4 (Xk (qC e)),.row 0 1 (Xk [.sl 0 0 (fun _=>.any) true]),.row 0 1 (Xk [.bool false]),.row 0 1 (Xk [.osl 4 W.length 8 0 W.length]),.row W.length (W.length*8) (Xt vC 8 v0 W)]:=nrfl rfl
theorem NY (e:Rat) (W:List V2):P7 5 (Gb e W):=by
 have hvc:∀ a:V2,∀ x∈vC a,Settled x:=fun a=>by simp [vC,X6,X2]
 refine ⟨rfl,fun o ho=>?_⟩
 simp only [Gb,List.mem_cons,List.not_mem_nil,or_false] at ho
 rcases ho with rfl | rfl | rfl | rfl | rfl
 ·exact ⟨by simp [qC,XA],by simp,by simp⟩
 ·exact ⟨by simp [XA],by simp,by simp⟩
 ·exact ⟨by simp [XA],by simp,by simp⟩
 ·exact ⟨by simp [XA],by simp,by simp⟩
 ·exact ⟨fun j _=>X7 (Xe (hvc _) _),by simp,by simp⟩
theorem pR {p:Nat→Prop}:∀ n,p n→∃ n,p n∧∀ m,m<n→¬ p m:=by
 intro n
 induction n using Nat.strongRecOn with
 | ind n ih =>
  intro h
  by_cases hm:∃ m,m<n∧p m
  ·obtain ⟨m,h1,h2⟩:=hm
   exact ih m h1 h2
  ·exact ⟨n,h,fun m hm' hp=>hm ⟨m,hm',hp⟩⟩
def Yp (e:Rat) (W:List V2):List AO:=[.row 0 4 (Xk (qC e)),.row 0 1 (Xk [.sl 0 0 (fun _=>.any) false]),.row 0 1 (Xk [.bool false]),.row 0 1 (Xk [.osl 4 W.length 8 0 W.length]),.row W.length (W.length*8) (Xt vC 8 v0 W)]
theorem Po (e:Rat) (W:List V2):Yp e W=[.row 0 4 (Xk (qC e)),.row 0 1 (Xk [.sl 0 0 (fun _=>.any) false]),.row 0 1 (Xk [.bool false]),.row 0 1 (Xk [.osl 4 W.length 8 0 W.length]),.row W.length (W.length*8) (Xt vC 8 v0 W)]:=nrfl rfl
theorem Vm (e:Rat) (W:List V2):P7 5 (Yp e W):=by
 have hvc:∀ a:V2,∀ x∈vC a,Settled x:=fun a=>by simp [vC,X6,X2]
 refine ⟨rfl,fun o ho=>?_⟩
 simp only [Yp,List.mem_cons,List.not_mem_nil,or_false] at ho
 rcases ho with rfl | rfl | rfl | rfl | rfl
 ·exact ⟨by simp [qC,XA],by simp,by simp⟩
 ·exact ⟨by simp [XA],by simp,by simp⟩
 ·exact ⟨by simp [XA],by simp,by simp⟩
 ·exact ⟨by simp [XA],by simp,by simp⟩
 ·exact ⟨fun j _=>X7 (Xe (hvc _) _),by simp,by simp⟩
theorem Tq {A B:List (List V2)} {e:Rat} (h:CG A B e=false):∃ i k,i<A.length∧k<B.length∧Zw A B e i k=false∧∀ j l,(j<i∨j=i∧l<k)→l<B.length→Zw A B e j l=true:=by
 have h1:¬ ∀ i,i<A.length→NZ A B e i=true:=fun H=>by
  have:CG A B e=true:=decide_eq_true H
  rw [h] at this; cases this
 have h2:∃ i,i<A.length∧NZ A B e i=false:=by
  apply Classical.byContradiction
  intro H
  refine h1 fun i hi=>?_
  cases hp:NZ A B e i with
  | true=>rfl
  | false=>exact absurd ⟨i,hi,hp⟩ H
 obtain ⟨i',hi'⟩:=h2
 obtain ⟨i,⟨hi,hp⟩,hmin⟩:=pR (p:=fun i=>i<A.length∧NZ A B e i=false) i' hi'
 have h4:∃ k,k<B.length∧Zw A B e i k=false:=by
  apply Classical.byContradiction
  intro H
  have:NZ A B e i=true:=decide_eq_true fun k hk=>by
   cases hq:Zw A B e i k with
   | true=>rfl
   | false=>exact absurd ⟨k,hk,hq⟩ H
  rw [hp] at this; cases this
 obtain ⟨k',hk'⟩:=h4
 obtain ⟨k,⟨hk,hq⟩,hmin2⟩:=pR (p:=fun k=>k<B.length∧Zw A B e i k=false) k' hk'
 refine ⟨i,k,hi,hk,hq,fun j l hjl hl=>?_⟩
 cases hv:Zw A B e j l with
 | true=>rfl
 | false =>
  rcases hjl with hj | ⟨rfl,hlk⟩
  ·exact absurd ⟨by omega,li hl hv⟩ (hmin j hj)
  ·exact absurd ⟨hl,hv⟩ (hmin2 l hlk)
theorem l6 (A B:List (List V2)) (e:Rat) (c:Nat) (ha:∀ i,i<A.length→Shp c (A.getD i [])) (hb:∀ i,i<B.length→Shp c (B.getD i [])) (h1:1≤c) (hc:c≤1000) (he:qb e≤10000) (la:A.length≤1000) (lb:B.length≤1000) :
  Fn Tryz.prog 201 [V7 A,V7 B,qA e] (.tup [.any,.bool (CG A B e)]):=by
 have cp:=jc A B
 obtain ⟨R,hR⟩:∃ R,R=CG A B e:=⟨_,rfl⟩
 rw [← hR]
 have s15:Settled (.fn 260 [Z6 A,Z6 B]):=Jb (by
  intro a ha
  simp only [List.mem_cons,List.not_mem_nil,or_false] at ha
  rcases ha with rfl | rfl <;> exact FS _)
 refine Fq Tryz.call201 Tryz.func201 13 [16,17] [] [] (by simp [Aj,Xa]) (Xj ?_)
 simp only [AS.start,XX,↓X1,wF,seval]
 refine X0 cp rfl ?_
 simp only [XX,↓X1,wF,seval]
 refine Run.sub (s':=⟨13,[16,17],[.any,.any,.any,.any,.any,.ref 0 0 0,.ref 1 0 0,.ref 2 0 0,.ref 3 0 0,.any,.any,.any,.any],[(15,.fn 260 [Z6 A,Z6 B])],Gb e []⟩) ?_ ((Jn 3 1 (fun _=>.sl 0 0 (fun _=>.any) true) rfl (Nat.le_refl _) (fun j hj=>by have e:j=0:=Nat.lt_one_iff.1 hj; subst e; rfl)).trans ((F1 3 8 (Xt vC 8 v0 []) rfl 1 (Nat.le_refl _)).trans ((Jn 3 1 (Xk [.osl 4 0 8 0 0]) rfl (Nat.le_refl _) (fun j hj=>by have e:j=0:=Nat.lt_one_iff.1 hj; subst e; rfl)).trans (Xg rfl (by simp [Xf]) (by simp [Xm,Xq]) (by simp [Gb,qC,X3])))))
 have hb1:∀ i k,i<A.length→k<B.length→i*B.length+k<1000*1000:=fun i k hi hk=>by
  have h2:i*B.length+B.length≤A.length*B.length:=by rw [← Nat.succ_mul]; exact Nat.mul_le_mul_right _ hi
  have h3:A.length*B.length≤1000*1000:=Nat.mul_le_mul la lb
  omega
 have hN:∃ N,(R=true∧N=A.length*B.length∧∀ i k,i<A.length→k<B.length→Zw A B e i k=true)∨(R=false∧∃ i0 k0,N=i0*B.length+k0∧i0<A.length∧k0<B.length∧Zw A B e i0 k0=false∧∀ j l,(j<i0∨j=i0∧l<k0)→l<B.length→Zw A B e j l=true):=by
  cases hq:CG A B e with
  | true =>
   have h2:=of_decide_eq_true hq
   exact ⟨_,.inl ⟨hR.trans hq,rfl,fun i k hi hk=>of_decide_eq_true (h2 i hi) k hk⟩⟩
  | false =>
   obtain ⟨i0,k0,g1,g2,g3,g4⟩:=Tq hq
   exact ⟨_,.inr ⟨hR.trans hq,i0,k0,rfl,g1,g2,g3,g4⟩⟩
 obtain ⟨N,hN⟩:=hN
 refine Dv R (gf:=260) (caps:=[Z6 A,Z6 B]) (Hn:=cond R (Gb e (CL A B e N)) (Yp e (CL A B e N))) rfl rfl rfl (fun t ht=>?_) ?_
 ·have yT:∀ i k,i<A.length→k<B.length→Zw A B e i k=true→YCall Tryz.prog t [Xx (A.getD i []),Xx (B.getD k [])] (Gb e (CL A B e (i*B.length+k))) (.bool true) (Gb e (CL A B e (i*B.length+k+1))):=fun i k hi hk hp=>by
   have cf:=Pf (A.getD i []) (B.getD k []) e c (ha i hi) (hb k hk) h1 hc he
   rw [show (A8 (A.getD i []) (B.getD k []) e).2=true from hp] at cf
   have hd:=my A B e i k hk
   have hlt:=hb1 i k hi hk
   have hs:=aq A B e (i*B.length+k)
   have hl:=ga A B e (i*B.length+k)
   rw [hs,hd]
   generalize CL A B e (i*B.length+k)=W at *
   generalize (A8 (A.getD i []) (B.getD k []) e).1=d at *
   have hap:=QN vC 8 v0 W d (by omega)
   refine DJ (str:=[]) (hcs:=[]) ht mixed (by kernel_rfl) (by kernel_rfl) rfl (fun p hp=>?_) (fun o ho=>((NY e _).2 o ho).1) (fun l r hr=>?_)
   ·have hp':p=16∨p=17:=by simpa using hp
    rcases hp' with rfl | rfl <;> exact Nat.le_of_ble_eq_true rfl
   show Run _ _ ⟨13,[16,17],[.any,.any,.any,.any,.any,.ref 0 0 0,.ref 1 0 0,.ref 2 0 0,.ref 3 0 0,.any,.any,.any,.any],[(17,Xx (B.getD k [])),(16,Xx (A.getD i [])),(15,.fn 260 [Z6 A,Z6 B])],Gb e W⟩
   refine Xj ?_
   simp only [Ih,↓X1,wF,seval]
   refine EI hr ?_
   refine Xj ?_
   simp only [↓X1,wF,seval]
   refine X0 cf rfl ?_
   simp only [↓X1,wF,seval]
   refine ⟨⟨F4 _,by omega,by omega⟩,ou ?_⟩
   rw [List.length_append,List.length_singleton,← hap]
   rfl
  have hce:t.ce.H.length≤5:=by rw [ht.ch]; exact Nat.le_refl _
  rcases hN with ⟨rfl,rfl,hall⟩ | ⟨rfl,i0,k0,rfl,hi0,hk0,hno,hyes⟩
  ·exact Ux A B t 5 (fun n=>Gb e (CL A B e n)) la lb (fun n=>NY _ _) hce fun i k hi hk=>yT i k hi hk (hall i k hi hk)
  ·refine bJ A B t 5 (fun n=>Gb e (CL A B e n)) (Yp e (CL A B e (i0*B.length+k0))) la lb (fun n=>NY _ _) hce i0 k0 hi0 hk0 (fun i k h hk=>yT i k (by omega) hk (hyes i k h hk)) ?_ (Vm _ _)
   have cf:=Pf (A.getD i0 []) (B.getD k0 []) e c (ha i0 hi0) (hb k0 hk0) h1 hc he
   rw [show (A8 (A.getD i0 []) (B.getD k0 []) e).2=false from hno] at cf
   generalize CL A B e (i0*B.length+k0)=W at *
   generalize (A8 (A.getD i0 []) (B.getD k0 []) e).1=d at *
   refine LK false (str:=[]) (hcs:=[]) ht mixed (by kernel_rfl) (by kernel_rfl) rfl (fun p hp=>?_) (fun o ho=>((Vm e _).2 o ho).1) (fun l r hr=>?_)
   ·have hp':p=16∨p=17:=by simpa using hp
    rcases hp' with rfl | rfl <;> exact Nat.le_of_ble_eq_true rfl
   show Run (U6 _ _ _ _ _ _ _ _) _ ⟨13,[16,17],[.any,.any,.any,.any,.any,.ref 0 0 0,.ref 1 0 0,.ref 2 0 0,.ref 3 0 0,.any,.any,.any,.any],[(17,Xx (B.getD k0 [])),(16,Xx (A.getD i0 [])),(15,.fn 260 [Z6 A,Z6 B])],Gb e W⟩
   refine Xj ?_
   simp only [Ih,Po,↓X1,wF,seval]
   refine U7 hr ?_
   refine Xj ?_
   simp only [↓X1,wF,seval]
   refine X0 cf rfl ?_
   simp only [↓X1,wF,seval]
   exact xq rfl
 ·rcases hN with ⟨rfl,rfl,hall⟩ | ⟨rfl,i0,k0,rfl,hi0,hk0,hno,hyes⟩
  ·show Run _ _ ⟨13,[16,17],[.any,.any,.any,.any,.any,.ref 0 0 0,.ref 1 0 0,.ref 2 0 0,.ref 3 0 0,.any,.any,.any,.any],[(15,.fn 260 [Z6 A,Z6 B])],Gb e (CL A B e (A.length*B.length))⟩
   generalize CL A B e (A.length*B.length)=W
   show Run _ (_ :: _) _
   refine Xj ?_
   simp only [Ih,↓X1,wF,seval]
   exact Ki (x:=.osl 4 W.length 8 0 W.length) (y:=.bool true) rfl (by simp only [Jj,↓X1,wF,seval]) (by simp only [Jj,↓X1,wF,seval]) (XK Bn (SX _)) ((X2 _).sees _)
  ·show Run _ _ ⟨13,[16,17],[.any,.any,.any,.any,.any,.ref 0 0 0,.ref 1 0 0,.ref 2 0 0,.ref 3 0 0,.any,.any,.any,.any],[(15,.fn 260 [Z6 A,Z6 B])],Yp e (CL A B e (i0*B.length+k0))⟩
   generalize CL A B e (i0*B.length+k0)=W
   show Run _ (_ :: _) _
   refine Xj ?_
   simp only [Po,↓X1,wF,seval]
   exact Ki (x:=.sl 0 0 (fun _=>.any) false) (y:=.bool false) rfl (by simp only [Jj,↓X1,wF,seval]) (by simp only [Jj,↓X1,wF,seval]) (XK Bn (SX _)) ((X2 _).sees _)
def xI:Go.Shelf.Ren:=⟨fun _=>290,fun t=>if t=23 then 3 else t,fun x=>x⟩
theorem vH:SlLaysE.n45 Tryz.prog xI where
 mixed:=mixed
 f45:=⟨Tryz.f290.name,rfl,Tryz.func290.trans (congrArg some rfl)⟩
 t0:=Tryz.underlying0
 a0:=Tryz.isAgg0
 z0:=Tryz.sizeOf0
 v0:=Tryz.zeroValue0
 t3:=Tryz.underlying3
 a3:=Tryz.isAgg3
 z3:=Tryz.sizeOf3
 v3:=Tryz.zeroValue3
 t4:=Tryz.underlying4
 a4:=Tryz.isAgg4
 z4:=Tryz.sizeOf4
 v4:=Tryz.zeroValue4
 t22:=Tryz.underlying22
 a22:=Tryz.isAgg22
 z22:=Tryz.sizeOf22
 v22:=Tryz.zeroValue22
 a23:=Tryz.isAgg3
 z23:=Tryz.sizeOf3
def M9 (x:Int):Value:=.int .i64 x
theorem Rk (w:World) (b:Nat) (d:Array Int) (cs:Array Value) (el:TypeId) (fr:Nat×Nat) (h:w.heap[b]?=some (.cells cs el fr)):(Go.Sort.putRow M9 w b 0 d).heap[b]?=some (.cells (Go.Sort.putCells M9 0 d cs) el fr):=by
 show (w.heap.modify b _)[b]?=_
 rw [Array.getElem?_modify,if_pos rfl,h]
 rfl
theorem Fy (w:World) (b b':Nat) (d:Array Int) (h:b'≠b):(Go.Sort.putRow M9 w b 0 d).heap[b']?=w.heap[b']?:=by
 show (w.heap.modify b _)[b']?=_
 rw [Array.getElem?_modify,if_neg (Ne.symm h)]
theorem MM (o:AO) (R:List Int) (v i:Nat) (hi:i<R.length):HCall Tryz.prog 290 [.osl 1 v 1 0 R.length,I i,I ((i+1:Nat):Int)] [o,.row v R.length (Qb I 0 R)] (.osl 1 (v+1) 1 0 (R.length - 1)) [o,.row (v+1) (R.length - 1) (Qb I 0 (R.eraseIdx i))]:=by
 refine ⟨Tryz.call290,?_⟩
 rintro c vs hH hr ⟨hv1,hv2⟩
 have ho:c.H[1]?=some (.row v R.length (Qb I 0 R)):=by rw [hH]; rfl
 have hinf:inf c.H 1=some v:=by simp [inf,ho,AO.info]
 have live:¬ stale c.H 1 v:=by
  rintro (⟨v'',h1,hlt⟩ | hd)
  ·rw [hinf] at h1; cases h1; omega
  ·simp [inf,hd,AO.info] at hinf
 obtain ⟨l,hl⟩:∃ l,vs=l:=⟨_,rfl⟩
 have hx:=hv2 0 (by simp)
 have hy:=hv2 1 (by simp)
 have hz:=hv2 2 (by simp)
 have e3:vs=#[vs.getD 0 undef,vs.getD 1 undef,vs.getD 2 undef]:=by
  have h3:vs.size=3:=hv1
  apply Array.ext
  ·simp [h3]
  ·intro j h1 h2
   match j,h1 with
   | 0,_=>simp [Array.getD,h3]
   | 1,_=>simp [Array.getD,h3]
   | 2,_=>simp [Array.getD,h3]
   | j+3,h=>omega
 rw [e3]
 generalize vs.getD 0 undef=x at *
 generalize vs.getD 1 undef=y at *
 generalize vs.getD 2 undef=z at *
 replace hx:Rep c x (.osl 1 v 1 0 R.length):=hx
 replace hy:Rep c y (I i):=hy
 replace hz:Rep c z (I ((i+1:Nat):Int)):=hz
 cases hy
 cases hz
 generalize hn:R.length=n at hx
 cases hx with
 | oslz _ _ _ _ a h=>omega
 | oslOld _ _ _ _ _ a cap h hs=>exact absurd hs live
 | oslzOld _ _ _ _ a hs=>exact absurd hs live
 | osl _ _ _ _ _ cap b sz h1 hg hcn hcap hmx =>
  subst hn
  rcases hr.row 1 _ _ _ ho with ⟨hg',_⟩ | ⟨b',sz',cs,el,hg',hh,hcs,hks,hnS,hcr⟩
  ·rw [hg'] at hg; cases hg
  rw [hg'] at hg
  cases hg
  have hcell:∀ j,j<R.length→cs.getD j undef=M9 (R.getD j 0):=fun j hj=>by
   have:=hcr j hj
   rw [show Qb I 0 R j=I (R.getD j 0) from rfl] at this
   generalize cs.getD j undef=q at this ⊢
   cases this; rfl
  have hget:∀ j,j<R.length→R.toArray[j]! = R.getD j 0:=fun j hj=>by
   rw [getElem!_pos R.toArray j (by simpa using hj)]
   simp [List.getD_eq_getElem?_getD,hj]
  have hold:Go.Sort.Holds M9 c.w b 0 R.toArray:=fun j hj=>by
   have hj':j<R.length:=by simpa using hj
   refine ⟨?_,?_⟩
   ·rw [Zr hh (m:=R.length) (by omega) j hj',hcell j hj',hget j hj']
   ·unfold World.frozen?
    rw [hh]
    simp
  obtain ⟨_,i0,z0,hi0,hz1,_⟩:=Z0 pM
  have key:=AnyE.slices_Delete vH M9 (fun _=>rfl) 0 (fun w=>Tryz.zeroValue3 w) i0 hi0 hz1 b 0 cap i (i+1) R.toArray c.w hold (by simpa using hcn) hmx (by omega) (by rw [List.size_toArray]; omega)
  rw [List.size_toArray] at key
  refine key.mono ?_
  rintro e w' ⟨rfl,q,rfl⟩
  obtain ⟨d,hd⟩:∃ d,d=(R.toArray.toList.take i ++ R.toArray.toList.drop (i+1) ++ List.replicate (i+1 - i) (0:Int)).toArray:=⟨_,rfl⟩
  rw [← hd]
  have hds:d.size=R.length:=by rw [hd]; simp; omega
  have hdj:∀ j,j<R.length - 1→d[j]! = (R.eraseIdx i).getD j 0:=fun j hj=>by
   rw [getElem!_pos d j (by omega)]
   subst hd
   simp only [List.getElem_toArray,List.getD_eq_getElem?_getD,List.getElem?_eraseIdx]
   by_cases h:j<i
   ·rw [List.getElem_append_left (by simp; omega),List.getElem_append_left (by simp; omega)]
    simp [h,show j<R.length by omega]
   ·rw [List.getElem_append_left (by simp; omega),List.getElem_append_right (by simp; omega)]
    have e1:i+1+(j - min i R.length)=j+1:=by omega
    simp [h,e1,show j+1<R.length by omega]
  have hcs2:(Go.Sort.putCells M9 0 d cs).size=cs.size:=by simp [Go.Sort.putCells]
  have hset:(c.H.set 1 (.row (v+1) (R.length - 1) (Qb I 0 (R.eraseIdx i))))[1]?=some (.row (v+1) (R.length - 1) (Qb I 0 (R.eraseIdx i))):=by rw [hH]; rfl
  have hoth:∀ k,k≠1→(c.H.set 1 (.row (v+1) (R.length - 1) (Qb I 0 (R.eraseIdx i))))[k]?=c.H[k]?:=fun k hk=>by simp [Ne.symm hk]
  have hinf':inf (c.H.set 1 (.row (v+1) (R.length - 1) (Qb I 0 (R.eraseIdx i)))) 1=some (v+1):=by simp [inf,hset,AO.info]
  obtain ⟨g1,g2⟩:=ZA (c:=c) (c':=⟨Go.Sort.putRow M9 (Go.Sort.ahead c.w q) b 0 d,c.S,c.γ,c.H.set 1 (.row (v+1) (R.length - 1) (Qb I 0 (R.eraseIdx i)))⟩) hr
   (id:=1) (ver:=v+1) (n:=R.length - 1) (b:=b) (sz:=sz) hset hoth rfl hg' (fun _ _=>rfl) (Rk (Go.Sort.ahead c.w q) b d cs el (0,0) hh) (hcs2.trans hcs) (by omega)
   (fun b' hb' _=>Fy (Go.Sort.ahead c.w q) b b' d hb') (by simp) rfl rfl rfl (.inr ⟨_,_,ho,rfl,hg'⟩) (.inr (.inr ⟨v,hinf,.inl (by omega)⟩)) (fun j hj=>by
    have e1:(Go.Sort.putCells M9 0 d cs).getD j undef=M9 d[j]!:=by
     have h1:j<cs.size:=by omega
     have h2:j<d.size:=by omega
     simp [Go.Sort.putCells,Array.getD_eq_getD_getElem?,h1,h2]
    rw [e1,hdj j hj]
    exact .int _ _)
  rw [hH] at hinf' g1 g2
  rw [show R.length - (i+1 - i)=R.length - 1 by omega]
  exact ⟨_,_,_,rfl,.osl 1 (v+1) 1 0 (R.length - 1) cap b sz hinf' hg' (by omega) hcap hmx,g1,g2⟩
def zs (R:List Nat):List Int:=R.map fun n:Nat=>(n:Int)
theorem XG (R:List Nat):(zs R).length=R.length:=by unfold zs; rw [List.length_map]
theorem Eu (R:List Nat) (j:Nat):(zs R).getD j 0=((R.getD j 0:Nat):Int):=by
 unfold zs
 rw [List.getD_eq_getElem?_getD,List.getElem?_map,List.getD_eq_getElem?_getD]
 cases R[j]? <;> rfl
theorem T4 (R:List Nat) (i:Nat):(zs R).eraseIdx i=zs (R.eraseIdx i):=by
 unfold zs
 apply List.ext_getElem?
 intro j
 simp only [List.getElem?_eraseIdx,List.getElem?_map]
 split <;> rfl
def kL (L:List V2) (R:List Nat):AV:=.ptr 2 (Xk [Xx L,X4 (zs R)]) 0
theorem XU (L:List V2) (R:List Nat):kL L R=.ptr 2 (Xk [Xx L,X4 (zs R)]) 0:=nrfl rfl
theorem Ai (L:List V2) (R:List Nat):Settled (kL L R):=QO fun j hj=>by
 match j,hj with
 | 0,_=>exact Xh L
 | 1,_=>exact X6 _
 | j+2,h=>omega
def tV (L:List V2) (R:List Nat):AV:=.ptr 1 (Xk [kL L R]) 0
theorem OL (L:List V2) (R:List Nat):tV L R=.ptr 1 (Xk [kL L R]) 0:=nrfl rfl
theorem Dz (L:List V2) (R:List Nat):Settled (tV L R):=QO fun j hj=>by
 obtain rfl:j=0:=by omega
 exact Ai L R
def nr (R:List Nat) (m:Nat):Nat:=R.getD (m % R.length) 0
theorem ww (R:List Nat) (m:Nat):(zs R).getD (m % R.length) 0=((nr R m:Nat):Int):=Eu R _
structure Rok (L:List V2) (R:List Nat):Prop where
 pos:0<R.length
 len:R.length<1000000
 mem:∀ j,R.getD j 0<L.length
 lenL:L.length<1000000
theorem Im (L:List V2) (R:List Nat) (k:Int) (m:Nat) (h:Rok L R) (hk:k+R.length=m) (hm:m<10000000) (h1:-10≤k) (h2:k<10000000):Fn Tryz.prog 295 [I k,tV L R] (I (nr R m)):=by
 obtain ⟨h0,hn,hmem,hL⟩:=h
 refine Fq Tryz.call295 Tryz.func295 4 [] [] [] (by simp [Dz,X9]) (Xj ?_)
 have w1:IntKind.i64.wrap (k+R.length)=(m:Int):=by rw [IntKind.wrap_i64]; omega
 have hmod:(m:Int).tmod R.length=((m % R.length:Nat):Int):=rfl
 have hlt:m % R.length<R.length:=Nat.mod_lt _ h0
 have f1:(((m % R.length:Nat):Int)<R.length)=True:=eq_true (by omega)
 have f2:(m % R.length<R.length)=True:=eq_true hlt
 have f3:(m % R.length+1≤R.length)=True:=eq_true (by omega)
 have f6:((R.length:Int)=0)=False:=eq_false (by omega)
 have f6':(R.length=0)=False:=eq_false (by omega)
 have w2:IntKind.i64.wrap (((m % R.length:Nat):Int))=((m % R.length:Nat):Int):=by rw [IntKind.wrap_i64]; omega
 have v1:=ww R m
 simp only [AS.start,OL,XU,X3,XG,w1,w2,hmod,f1,f2,f3,f6,f6',v1,Int.toNat_natCast,↓X1,wF,seval]
 exact Xv rfl rfl (X9 _) rfl
theorem Ge (L:List V2) (R:List Nat) (p:Nat) (h:Rok L R) (hp:p<1000000):Fn Tryz.prog 289 [kL L R,I p] (.tup [I (nr R (p+R.length - 1)),I (nr R (p+R.length+1))]):=by
 have c1:=Im L R ((p:Int) - 1) (p+R.length - 1) h (by have:=h.pos; omega) (by have:=h.len; omega) (by omega) (by omega)
 have c2:=Im L R ((p:Int)+1) (p+R.length+1) h (by omega) (by have:=h.len; omega) (by omega) (by omega)
 have w1:IntKind.i64.wrap ((p:Int) - 1)=(p:Int) - 1:=by rw [IntKind.wrap_i64]; omega
 have w2:IntKind.i64.wrap ((p:Int)+1)=(p:Int)+1:=by rw [IntKind.wrap_i64]; omega
 have hl:SeesL [.row 0 1 (Xk [.ptr 2 (Xk [Xx L,X4 (zs R)]) 0])] ([.ref 0 0 0]:List AV) [tV L R]:=⟨KE (.inl rfl) (by omega) (fun j hj=>by
  obtain rfl:j=0:=by omega
  exact (Ai L R).sees _),trivial⟩
 refine Fq Tryz.call289 Tryz.func289 7 [] [] [] (by simp [Ai,X9]) (Xj ?_)
 simp only [AS.start,XU,w1,w2,↓X1,wF,seval]
 refine Jz c1 rfl ⟨QE (X9 _) rfl,hl⟩ (BN _ _) ?_
 simp only [w1,w2,↓X1,wF,seval]
 refine Jz c2 rfl ⟨QE (X9 _) rfl,hl⟩ (BN _ _) ?_
 simp only [w1,w2,↓X1,wF,seval]
 exact Sk rfl rfl rfl (X9 _) (X9 _) rfl rfl
def Mm (L:List V2) (R:List Nat) (p:Nat):Int:=Jm (L.getD (nr R (p+R.length - 1)) v0) (L.getD (R.getD p 0) v0) (L.getD (nr R (p+R.length+1)) v0)
theorem Ww (L:List V2) (R:List Nat) (p k:Nat) (h:Rok L R) (hp:p<R.length) (hs:Qs L k) (hk:k≤10000):Fn Tryz.prog 288 [kL L R,I p] (I (Mm L R p)):=by
 have c1:=Ge L R p h (by have:=h.len; omega)
 have c2:=Z3 (L.getD (nr R (p+R.length - 1)) v0) (L.getD (R.getD p 0) v0) (L.getD (nr R (p+R.length+1)) v0) (by have:=hs (nr R (p+R.length - 1)); unfold vs; omega) (by have:=hs (R.getD p 0); unfold vs; omega) (by have:=hs (nr R (p+R.length+1)); unfold vs; omega)
 obtain ⟨h0,hn,hmem,hL⟩:=h
 have m1:=hmem ((p+R.length - 1) % R.length)
 have m2:=hmem ((p+R.length+1) % R.length)
 have m3:=hmem p
 change nr R (p+R.length - 1)<L.length at m1
 change nr R (p+R.length+1)<L.length at m2
 unfold Mm
 generalize nr R (p+R.length - 1)=a at *
 generalize nr R (p+R.length+1)=c at *
 have v2:=Eu R p
 generalize R.getD p 0=b at *
 have f1:((p:Int)<R.length)=True:=eq_true (by omega)
 have f2:(p<R.length)=True:=eq_true hp
 have f3:(p+1≤R.length)=True:=eq_true (by omega)
 have a1:((a:Int)<L.length)=True:=eq_true (by omega)
 have a2:(a<L.length)=True:=eq_true m1
 have a3:(a*8+8≤L.length*8)=True:=eq_true (by omega)
 have b1:((b:Int)<L.length)=True:=eq_true (by omega)
 have b2:(b<L.length)=True:=eq_true m3
 have b3:(b*8+8≤L.length*8)=True:=eq_true (by omega)
 have e1:((c:Int)<L.length)=True:=eq_true (by omega)
 have e2:(c<L.length)=True:=eq_true m2
 have e3:(c*8+8≤L.length*8)=True:=eq_true (by omega)
 have va:=vF L a
 have vb:=vF L b
 have vc:=vF L c
 refine Fq Tryz.call288 Tryz.func288 7 [] [] [] (by simp [Ai,X9]) (Xj ?_)
 simp only [AS.start,XU,X5,X3,↓X1,wF,seval]
 refine X0 c1 rfl ?_
 simp only [XU,X5,X3,XG,f1,f2,f3,a1,a2,a3,b1,b2,b3,e1,e2,e3,va,vb,vc,v2,Int.toNat_natCast,↓X1,wF,seval]
 refine X0 c2 rfl ?_
 simp only [↓X1,wF,seval]
 exact Xv rfl rfl (X9 _) rfl
theorem im (s:List Int) (v:Int) (hl:s.length<1048576):Fn Tryz.prog 297 [X4 s,I v] (I (HA (fun x=>decide (v=x)) s)):=by
 refine Fr Tryz.call297 Tryz.func297 6 [6,7,8] [] [] ?_
 simp only [AS.start,X3,↓X1,wF,seval]
 refine Xd (fun j:Nat=>⟨6,[6,7,8],[X4 s,I v,.any,.any,.any,.any],[(6,X4 s),(7,I s.length),(8,I j)],[]⟩) (fun j=>j≤s.length∧∀ i,i<j→(fun x=>decide (v=x)) (s.getD i 0)=false) (fun j=>s.length - j) 0 ⟨by omega,by omega⟩
  (Xg rfl (by simp [Xf,X3,I]) (by simp [Xm,Xq,X3,I]) rfl) ?_
 rintro j ⟨hj,hno⟩ next
 have w1:=wj j (by omega)
 refine Xj ?_
 simp only [X3,w1,↓X1,wF,seval]
 refine ⟨fun h=>⟨h,h,?_⟩,fun h=>Xv (v:=I (-1)) rfl rfl (X9 _) ?_⟩
 ·refine ⟨fun ht=>Xv (v:=I j) rfl rfl (X9 _) ?_,fun hf=>next (j+1) _ ⟨by omega,fun i hi=>?_⟩ (by omega) (Xg rfl ?_ ?_ rfl)⟩
  ·rw [Fz h (decide_eq_true ht) hno]
  ·by_cases e:i=j
   ·rw [e]; exact decide_eq_false hf
   ·exact hno i (by omega)
  ·simp [Xf,X3,I]
  ·simp [Xm,Xq,X3,I]
 ·rw [Gt fun i hi=>hno i (by omega)]
def Uy (R:List Nat) (x:Int):Nat:=(HA (fun y=>decide (x=y)) (zs R)).toNat
theorem OA {R:List Nat} (hd:R.Nodup) {p:Nat} (hp:p<R.length):HA (fun y=>decide (((R.getD p 0:Nat):Int)=y)) (zs R)=p:=by
 have at_:∀ i (hi:i<R.length),R.getD i 0=R[i]:=fun i hi=>by rw [List.getD_eq_getElem?_getD,List.getElem?_eq_getElem hi]; rfl
 refine Fz (by rw [XG]; exact hp) (by rw [Eu]; simp) fun i hi=>?_
 rw [Eu]
 refine decide_eq_false fun e=>?_
 rw [at_ i (by omega),at_ p hp] at e
 have e2:R[p]=R[i]:=by omega
 have:=(List.getElem_inj (i:=p) (j:=i) (h₀:=hp) (h₁:=by omega) hd).1 e2
 omega
theorem YT (L:List V2) (R:List Nat) (x:Int) (k:Nat) (h:Rok L R) (hd:R.Nodup) (hx:x∈zs R) (hs:Qs L k) (hk:k≤10000):Fn Tryz.prog 296 [I x,tV L R] (.bool (decide (Mm L R (Uy R x)=0))):=by
 obtain ⟨p,hp,rfl⟩:∃ p,p<R.length∧((R.getD p 0:Nat):Int)=x:=by
  obtain ⟨i,hi,rfl⟩:=List.getElem_of_mem hx
  refine ⟨i,by rw [XG] at hi; exact hi,?_⟩
  rw [← Eu,List.getD_eq_getElem?_getD,List.getElem?_eq_getElem hi]; rfl
 have c1:=im (zs R) ((R.getD p 0:Nat):Int) (by rw [XG]; have:=h.len; omega)
 have e:Uy R ((R.getD p 0:Nat):Int)=p:=by unfold Uy; rw [OA hd hp]; rfl
 rw [OA hd hp] at c1
 rw [e]
 have c2:=Ww L R p k h hp hs hk
 refine Fq Tryz.call296 Tryz.func296 4 [] [] [] (by simp [Dz,X9]) (Xj ?_)
 simp only [AS.start,OL,XU,X3,XG,↓X1,wF,seval]
 refine X0 c1 (by simp only [X3,XG]; rfl) ?_
 simp only [OL,XU,X3,XG,↓X1,wF,seval]
 refine X0 c2 (by simp only [XU,X3,XG]; rfl) ?_
 simp only [↓X1,wF,seval]
 exact Xv rfl rfl (X2 _) rfl
def Zd (L:List V2) (R:List Nat):Nat:=(List.range R.length).findIdx fun p=>decide (Mm L R p=0)
theorem R8 (L:List V2) (R:List Nat):Zd L R≤R.length:=by
 have:=List.findIdx_le_length (xs:=List.range R.length) (p:=fun p=>decide (Mm L R p=0))
 rw [List.length_range] at this
 exact this
theorem aH {L:List V2} {R:List Nat} (h:Zd L R<R.length):Mm L R (Zd L R)=0:=by
 have:=List.findIdx_getElem (xs:=List.range R.length) (p:=fun p=>decide (Mm L R p=0)) (w:=by rw [List.length_range]; exact h)
 rw [List.getElem_range] at this
 exact of_decide_eq_true this
theorem R9 {L:List V2} {R:List Nat} {p:Nat} (h:p<Zd L R):Mm L R p≠0:=by
 have h2:=R8 L R
 have:=List.not_of_lt_findIdx (xs:=List.range R.length) (p:=fun p=>decide (Mm L R p=0)) (i:=p) h
 rw [List.getElem_range] at this
 exact of_decide_eq_false this
def A5 (L:List V2):Nat→List Nat→List Nat
 | 0,R=>R
 | f+1,R=>if 3<R.length∧Zd L R<R.length then A5 L f (R.eraseIdx (Zd L R)) else R
theorem ml {L:List V2} {R:List Nat} (hd:R.Nodup):HA (fun x=>decide (Mm L R (Uy R x)=0)) (zs R)=if Zd L R<R.length then ((Zd L R:Nat):Int) else -1:=by
 have at_:∀ p,p<R.length→Uy R ((zs R).getD p 0)=p:=fun p hp=>by unfold Uy; rw [Eu,OA hd hp]; rfl
 split
 ·rename_i h
  refine Fz (by rw [XG]; exact h) ?_ fun i hi=>?_
  ·rw [at_ _ h]; exact decide_eq_true (aH h)
  ·rw [at_ _ (by omega)]; exact decide_eq_false (R9 hi)
 ·rename_i h
  refine Gt fun i hi=>?_
  rw [XG] at hi
  have:=R8 L R
  rw [at_ _ hi]; exact decide_eq_false (R9 (by omega))
def Ln (L:List V2) (N:Nat) (R:List Nat):List AO:=[.row 0 2 (Xk [Xx L,.osl 1 (N - R.length) 1 0 R.length]),.row (N - R.length) R.length (Qb I 0 (zs R))]
theorem J7 (L:List V2) (N:Nat) (R:List Nat):Ln L N R=[.row 0 2 (Xk [Xx L,.osl 1 (N - R.length) 1 0 R.length]),.row (N - R.length) R.length (Qb I 0 (zs R))]:=nrfl rfl
theorem Kk (L:List V2) (N:Nat) (R:List Nat):P7 2 (Ln L N R):=by
 refine ⟨rfl,fun o ho=>?_⟩
 have bL:Ko 2 (Xx L)=True:=eq_true (X7 (Xh L))
 simp only [Ln,List.mem_cons,List.not_mem_nil,or_false] at ho
 rcases ho with rfl | rfl
 ·exact ⟨by simp [XA,bL],by simp,by simp⟩
 ·exact ⟨fun j _=>X7 (X9 _),by simp,by simp⟩
theorem I8 {L:List V2} {N:Nat} {R:List Nat} {rest:List AO}:JH (Ln L N R ++ rest) (.ref 0 0 0) (kL L R):=KE (.inl rfl) (by omega) fun j hj=>by
 match j,hj with
 | 0,_=>exact (Xh L).sees _
 | 1,_ =>
  show JH _ (.osl 1 (N - R.length) 1 0 R.length) (X4 (zs R))
  have:=NE (l:=zs R) (H:=Ln L N R ++ rest) (id:=1) (ver:=N - R.length) (n:=R.length) rfl (by rw [XG]; exact Nat.le_refl _)
  rw [XG] at this
  exact this
 | j+2,h=>omega
theorem Sw {L:List V2} {N:Nat} {R:List Nat} {rest:List AO}:JH (Ln L N R ++ rest) (.osl 1 (N - R.length) 1 0 R.length) (X4 (zs R)):=by
 have:=NE (l:=zs R) (H:=Ln L N R ++ rest) (id:=1) (ver:=N - R.length) (n:=R.length) rfl (by rw [XG]; exact Nat.le_refl _)
 rw [XG] at this
 exact this
theorem wc {P:Program} {fn:Func} {str hcs:List Nat} {m:Nat} {H:List AO} {s:AS} (hr:fn.results=#[]) (hH:s.h.take m=H):RetOk (Ma P fn str hcs m (.tup []) H) s :=
 ⟨.tup [],by show KQ P fn s=_; simp [KQ,hr,J6,ZD],rfl,hH⟩
theorem tT {P:Program} {fn:Func} {str hcs:List Nat} {m:Nat} {H:List AO} {s:AS} (hr:fn.results=#[]) (hH:s.h.take m=H):RetE (Ma P fn str hcs m (.tup []) H) s :=
 ⟨.tup [],by show KQ P fn s=_; simp [KQ,hr,J6,ZD],rfl,hH⟩
theorem E8 {L:List V2} {R:List Nat} {q:Nat} (h:Rok L R) (h3:3<R.length) (hq:q<R.length):Rok L (R.eraseIdx q):=by
 obtain ⟨h0,hn,hmem,hL⟩:=h
 have hlen:(R.eraseIdx q).length=R.length - 1:=by rw [List.length_eraseIdx,if_pos hq]
 refine ⟨by omega,by omega,fun j=>?_,hL⟩
 rw [List.getD_eq_getElem?_getD,List.getElem?_eraseIdx]
 split
 ·rw [← List.getD_eq_getElem?_getD]; exact hmem j
 ·rw [← List.getD_eq_getElem?_getD]; exact hmem (j+1)
theorem fE (L:List V2) (N:Nat) (R0:List Nat) (k:Nat) (h:Rok L R0) (hd:R0.Nodup) (hN:R0.length≤N) (hs:Qs L k) (hk:k≤10000):HCall Tryz.prog 291 [.ref 0 0 0] (Ln L N R0) (.tup []) (Ln L N (A5 L R0.length R0)):=by
 have bL:Ko 3 (Xx L)=True:=eq_true (X7 (Xh L))
 refine HCall.introC (fn:=Tryz.f291) Tryz.call291 Tryz.func291 rfl mixed 3 [] [4,50000001,5004] [4] (by kernel_rfl) (Nat.le_of_ble_eq_true rfl) (X7 (SC (by simp))) (fun o ho=>((Kk _ _ _).2 o ho).1) (Xj ?_)
 simp only [AS.start,J7,↓X1,wF,seval]
 refine Xd (fun R:List Nat=>⟨3,[],[.any,.ref 2 0 0,.any],[],Ln L N R ++ [.con 0 1 (Xk [.ref 0 0 0])]⟩) (fun R=>Rok L R∧R.Nodup∧R.length≤N∧A5 L R.length R=A5 L R0.length R0) (fun R=>R.length) R0 ⟨h,hd,hN,rfl⟩
  (Sub.trans (Qk 2 rfl) (Kq (by simp [Xf]) (by simp [Ln]))) ?_
 rintro R ⟨hR,hdR,hNR,hcl⟩ next
 have hR':=hR
 obtain ⟨h0,hn,hmem,hL⟩:=hR'
 by_cases h3:3<R.length
 rotate_left
 ·have e:A5 L R.length R=R:=by
   cases hl:R.length with
   | zero=>rfl
   | succ n=>unfold A5; rw [if_neg (by omega)]
  rw [e] at hcl
  have f1:((3:Int)<R.length)=False:=eq_false (by omega)
  refine Xj ?_
  simp only [J7,List.cons_append,List.nil_append,f1,↓X1,wF,seval]
  rw [← hcl]
  exact tT rfl rfl
 have f1:((3:Int)<R.length)=True:=eq_true (by omega)
 have ci:=N7 (zs R) 296 [tV L R] (fun x=>decide (Mm L R (Uy R x)=0)) (by rw [XG]; omega) (fun a ha=>by rw [List.mem_singleton.1 ha]; exact Dz L R) (fun x hx=>YT L R x k hR hdR hx hs hk)
 rw [ml hdR] at ci
 have sB:JH (Ln L N R ++ [.con 0 1 (Xk [.ref 0 0 0])]) (.ref 2 0 0) (tV L R):=KE (.inr rfl) (by omega) fun j hj=>by
  obtain rfl:j=0:=by omega
  exact I8
 by_cases hq:Zd L R<R.length
 rotate_left
 ·have e:A5 L R.length R=R:=by
   cases hl:R.length with
   | zero=>rfl
   | succ n=>unfold A5; rw [if_neg (by omega)]
  rw [e] at hcl
  rw [if_neg hq] at ci
  refine Xj ?_
  simp only [J7,List.cons_append,List.nil_append,f1,↓X1,wF,seval]
  refine Jz ci rfl ⟨Sw,Bm ⟨sB,trivial⟩,trivial⟩ (BN _ _) ?_
  simp only [show ((-1:Int)<0)=True from eq_true (by omega),↓X1,wF,seval]
  rw [← hcl]
  exact wc rfl rfl
 rw [if_pos hq] at ci
 have hlq:∀ q,q<R.length→(R.eraseIdx q).length=R.length - 1:=fun q hq=>by rw [List.length_eraseIdx,if_pos hq]
 have ecl:A5 L R.length R=A5 L (R.eraseIdx (Zd L R)).length (R.eraseIdx (Zd L R)):=by
  rw [hlq _ hq]
  cases hl:R.length with
  | zero=>omega
  | succ n =>
   show (if 3<R.length∧Zd L R<R.length then A5 L n (R.eraseIdx (Zd L R)) else R)=_
   rw [if_pos ⟨h3,hq⟩]; rfl
 rw [ecl] at hcl
 generalize Zd L R=q at *
 have hl:=hlq q hq
 have f2:((q:Int)<0)=False:=eq_false (by omega)
 have w1:=wj q (by omega)
 have cd:=MM (.row 0 2 (Xk [Xx L,.osl 1 (N - R.length) 1 0 R.length])) (zs R) (N - R.length) q (by rw [XG]; exact hq)
 rw [XG,T4] at cd
 refine Xj ?_
 simp only [J7,List.cons_append,List.nil_append,f1,↓X1,wF,seval]
 refine Jz ci rfl ⟨Sw,Bm ⟨sB,trivial⟩,trivial⟩ (BN _ _) ?_
 simp only [w1,f2,↓X1,wF,seval]
 have o2:∀ o∈[AO.row 0 2 (Xk [Xx L,.osl 1 (N - R.length) 1 0 R.length]),.row (N - R.length+1) (R.length - 1) (Qb I 0 (zs (R.eraseIdx q)))],o≠.unborn∧∀ v n f,o≠.con v n f:=fun o ho=>by
  simp only [List.mem_cons,List.not_mem_nil,or_false] at ho
  rcases ho with rfl | rfl <;> exact ⟨by simp,by simp⟩
 have bA:∀ a∈[AV.osl 1 (N - R.length) 1 0 R.length,I q,I ((q+1:Nat):Int)],Ko 2 a:=fun a ha=>by
  simp only [List.mem_cons,List.not_mem_nil,or_false] at ha
  rcases ha with rfl | rfl | rfl
  ·exact HR (by omega)
  ·exact X7 (X9 _)
  ·exact X7 (X9 _)
 refine C6 (H1:=Ln L N R) (H1':=[AO.row 0 2 (Xk [Xx L,.osl 1 (N - R.length) 1 0 R.length]),.row (N - R.length+1) (R.length - 1) (Qb I 0 (zs (R.eraseIdx q)))]) (rest:=[.con 0 1 (Xk [.ref 0 0 0])]) rfl cd rfl rfl bA (fun o ho=>((Kk L N R).2 o ho).1) (fun o ho=>((Kk L N R).2 o ho).2.1) (fun o ho=>(o2 o ho).1) (QU (fun o ho=>((Kk L N R).2 o ho).2.2) (fun o ho=>(o2 o ho).2)) (Qj _) ?_
 simp only [List.cons_append,List.nil_append,↓X1,wF,seval]
 exact next (R.eraseIdx q) _ ⟨E8 hR h3 hq,hdR.eraseIdx q,by omega,hcl⟩ (by omega) (Kq (by simp [Xf]) (by rw [J7,hl,show N - (R.length - 1)=N - R.length+1 by omega]; rfl))
def pQ (a b c p:V2):Prop:=0≤Jm a b p∧0≤Jm b c p∧0≤Jm c a p
def Db (L:List V2) (a b c k:Nat):Prop:=k=a∨k=c∨k=b∨¬ pQ (L.getD a v0) (L.getD b v0) (L.getD c v0) (L.getD k v0)
def B9 (L:List V2) (R:List Nat) (p:Nat):Bool:=decide (0<Mm L R p∧∀ j,j<R.length→Db L (nr R (p+R.length - 1)) (R.getD p 0) (nr R (p+R.length+1)) (R.getD j 0))
def Mq (A B C:V2):AV:=.sl 3 24 (Xk [.bool (decide (A.x.num<0)),X4 (X8 A.x.num.natAbs),.bool false,X4 (X8 (qd A.x)),.bool (decide (A.y.num<0)),X4 (X8 A.y.num.natAbs),.bool false,X4 (X8 (qd A.y)),.bool (decide (B.x.num<0)),X4 (X8 B.x.num.natAbs),.bool false,X4 (X8 (qd B.x)),.bool (decide (B.y.num<0)),X4 (X8 B.y.num.natAbs),.bool false,X4 (X8 (qd B.y)),.bool (decide (C.x.num<0)),X4 (X8 C.x.num.natAbs),.bool false,X4 (X8 (qd C.x)),.bool (decide (C.y.num<0)),X4 (X8 C.y.num.natAbs),.bool false,X4 (X8 (qd C.y))]) true
theorem XQ (A B C:V2):Mq A B C=.sl 3 24 (Xk [.bool (decide (A.x.num<0)),X4 (X8 A.x.num.natAbs),.bool false,X4 (X8 (qd A.x)),.bool (decide (A.y.num<0)),X4 (X8 A.y.num.natAbs),.bool false,X4 (X8 (qd A.y)),.bool (decide (B.x.num<0)),X4 (X8 B.x.num.natAbs),.bool false,X4 (X8 (qd B.x)),.bool (decide (B.y.num<0)),X4 (X8 B.y.num.natAbs),.bool false,X4 (X8 (qd B.y)),.bool (decide (C.x.num<0)),X4 (X8 C.x.num.natAbs),.bool false,X4 (X8 (qd C.x)),.bool (decide (C.y.num<0)),X4 (X8 C.y.num.natAbs),.bool false,X4 (X8 (qd C.y))]) true:=nrfl rfl
theorem rq (L:List V2) (R:List Nat) (p k:Nat) (h:Rok L R) (hp:p<R.length) (hs:Qs L k) (hk:k≤10000):Fn Tryz.prog 274 [kL L R,I p] (.bool (B9 L R p)):=by
 have c1:=Ww L R p k h hp hs hk
 have c2:=Ge L R p h (by have:=h.len; omega)
 obtain ⟨h0,hn,hmem,hL⟩:=h
 have m1:=hmem ((p+R.length - 1) % R.length)
 have m2:=hmem ((p+R.length+1) % R.length)
 have m3:=hmem p
 change nr R (p+R.length - 1)<L.length at m1
 change nr R (p+R.length+1)<L.length at m2
 have hear:B9 L R p=decide (0<Mm L R p∧∀ j,j<R.length→Db L (nr R (p+R.length - 1)) (R.getD p 0) (nr R (p+R.length+1)) (R.getD j 0)):=rfl
 generalize B9 L R p=E at *
 generalize Mm L R p=S at *
 generalize nr R (p+R.length - 1)=a at *
 generalize nr R (p+R.length+1)=c at *
 have v2:=Eu R p
 generalize R.getD p 0=b at *
 have f1:((p:Int)<R.length)=True:=eq_true (by omega)
 have f2:(p<R.length)=True:=eq_true hp
 have f3:(p+1≤R.length)=True:=eq_true (by omega)
 have a1:((a:Int)<L.length)=True:=eq_true (by omega)
 have a2:(a<L.length)=True:=eq_true m1
 have a3:(a*8+8≤L.length*8)=True:=eq_true (by omega)
 have b1:((b:Int)<L.length)=True:=eq_true (by omega)
 have b2:(b<L.length)=True:=eq_true m3
 have b3:(b*8+8≤L.length*8)=True:=eq_true (by omega)
 have e1:((c:Int)<L.length)=True:=eq_true (by omega)
 have e2:(c<L.length)=True:=eq_true m2
 have e3:(c*8+8≤L.length*8)=True:=eq_true (by omega)
 have va:=vF L a
 have vb:=vF L b
 have vc:=vF L c
 refine Fq Tryz.call274 Tryz.func274 11 [52,53,54,77,78,79] [] [] (by simp [Ai,X9]) (Xj ?_)
 simp only [AS.start,XU,X5,X3,↓X1,wA,↓reduceIte,reduceIte,reduceCtorEq,Y1,Y2,Y3,Y4,Y5,Y6,Y7,Y8,Y9,YA,wE]
 refine X0 c1 rfl ?_
 by_cases hS:S≤0
 ·have g1:(S≤0)=True:=eq_true hS
  have hE:E=false:=by rw [hear]; exact decide_eq_false fun hh=>by omega
  simp only [XU,X5,X3,g1,↓X1,wA,↓reduceIte,reduceIte,reduceCtorEq,Y1,Y2,Y3,Y4,Y5,Y6,Y7,Y8,Y9,YA,wE]
  exact Xv (v:=.bool false) rfl rfl (X2 _) (by rw [hE])
 have g1:(S≤0)=False:=eq_false hS
 simp only [XU,X5,X3,g1,↓X1,wA,↓reduceIte,reduceIte,reduceCtorEq,Y1,Y2,Y3,Y4,Y5,Y6,Y7,Y8,Y9,YA,wE]
 refine X0 c2 rfl ?_
 simp only [XU,X5,X3,XG,f1,f2,f3,a1,a2,a3,b1,b2,b3,e1,e2,e3,va,vb,vc,v2,Int.toNat_natCast,↓X1,wA,↓reduceIte,reduceIte,reduceCtorEq,Y1,Y2,Y3,Y4,Y5,Y6,Y7,Y8,Y9,YA,wE]
 have sA:=hs a
 have sB:=hs b
 have sC:=hs c
 generalize hA:L.getD a v0=A at *
 generalize hB:L.getD b v0=B at *
 generalize hC:L.getD c v0=C at *
 have hfree:∀ q,Db L a b c q=(q=a∨q=c∨q=b∨¬ pQ A B C (L.getD q v0)):=fun q=>by unfold Db; rw [hA,hB,hC]
 refine Xd (fun j:Nat=>⟨11,[52,53,54,77,78,79],[kL L R,I p,.any,.any,.any,I a,I c,Mq A B C,.any,.any,.any],[(52,X4 (zs R)),(53,I R.length),(54,I j)],[]⟩) (fun j=>j≤R.length∧∀ i,i<j→Db L a b c (R.getD i 0)) (fun j=>R.length - j) 0 ⟨by omega,fun i hi=>absurd hi (Nat.not_lt_zero i)⟩
  (Xg rfl (by simp [Xf,XU,X5,X3,XG,XQ,I]) (by simp [Xm,Xq,X3,XG,I]) rfl) ?_
 rintro j ⟨hj,hno⟩ next
 have w1:=wj j (by omega)
 by_cases hj2:j<R.length
 rotate_left
 ·obtain rfl:j=R.length:=by omega
  have hE:E=true:=by rw [hear]; exact decide_eq_true ⟨by omega,hno⟩
  refine Xj ?_
  simp only [XU,X5,X3,XG,XQ,Int.lt_irrefl,Nat.lt_irrefl,↓X1,wA,↓reduceIte,reduceIte,reduceCtorEq,Y1,Y2,Y3,Y4,Y5,Y6,Y7,Y8,Y9,YA,wE]
  exact Xv (v:=.bool true) rfl rfl (X2 _) (by rw [hE])
 have k1:((j:Int)<R.length)=True:=eq_true (by omega)
 have k2:(j<R.length)=True:=eq_true hj2
 have k3:(j+1≤R.length)=True:=eq_true (by omega)
 have v3:=Eu R j
 have m4:=hmem j
 have nx:=next (j+1)
 have hgo:=fun hfr=>BG.2 (show (∀ i,i<j→Db L a b c (R.getD i 0))∧Db L a b c (R.getD j 0) from ⟨hno,hfr⟩)
 have hstop:¬ Db L a b c (R.getD j 0)→E=false:=fun hb=>by rw [hear]; exact decide_eq_false fun hh=>hb (hh.2 j hj2)
 rw [hfree] at hgo hstop
 generalize R.getD j 0=q at *
 have sQ:=hs q
 by_cases q1:q=a
 ·have g1:((q:Int)=(a:Int))=True:=eq_true (by omega)
  refine Xj ?_
  simp only [XU,X5,X3,XG,XQ,w1,f1,f2,f3,v2,k1,k2,k3,v3,g1,Int.toNat_natCast,↓X1,wA,↓reduceIte,reduceIte,reduceCtorEq,Y1,Y2,Y3,Y4,Y5,Y6,Y7,Y8,Y9,YA,wE]
  exact nx _ ⟨by omega,hgo (.inl q1)⟩ (by omega) (Xg rfl (by simp [Xf,XU,X5,X3,XG,XQ,I]) (by simp [Xm,Xq,X3,XG,I]) rfl)
 have g1':((q:Int)=(a:Int))=False:=eq_false (by omega)
 by_cases q2:q=c
 ·have g2:((q:Int)=(c:Int))=True:=eq_true (by omega)
  refine Xj ?_
  simp only [XU,X5,X3,XG,XQ,w1,f1,f2,f3,v2,k1,k2,k3,v3,g1',g2,Int.toNat_natCast,↓X1,wA,↓reduceIte,reduceIte,reduceCtorEq,Y1,Y2,Y3,Y4,Y5,Y6,Y7,Y8,Y9,YA,wE]
  exact nx _ ⟨by omega,hgo (.inr (.inl q2))⟩ (by omega) (Xg rfl (by simp [Xf,XU,X5,X3,XG,XQ,I]) (by simp [Xm,Xq,X3,XG,I]) rfl)
 have g2':((q:Int)=(c:Int))=False:=eq_false (by omega)
 by_cases q3:q=b
 ·have g3:((q:Int)=(b:Int))=True:=eq_true (by omega)
  refine Xj ?_
  simp only [XU,X5,X3,XG,XQ,w1,f1,f2,f3,v2,k1,k2,k3,v3,g1',g2',g3,Int.toNat_natCast,↓X1,wA,↓reduceIte,reduceIte,reduceCtorEq,Y1,Y2,Y3,Y4,Y5,Y6,Y7,Y8,Y9,YA,wE]
  exact nx _ ⟨by omega,hgo (.inr (.inr (.inl q3)))⟩ (by omega) (Xg rfl (by simp [Xf,XU,X5,X3,XG,XQ,I]) (by simp [Xm,Xq,X3,XG,I]) rfl)
 have g3':((q:Int)=(b:Int))=False:=eq_false (by omega)
 refine Xj ?_
 simp only [XU,X5,X3,XG,XQ,w1,f1,f2,f3,v2,k1,k2,k3,v3,g1',g2',g3',Int.toNat_natCast,↓X1,wA,↓reduceIte,reduceIte,reduceCtorEq,Y1,Y2,Y3,Y4,Y5,Y6,Y7,Y8,Y9,YA,wE]
 have x1:((q:Int)<L.length)=True:=eq_true (by omega)
 have x2:(q<L.length)=True:=eq_true m4
 have x3:(q*8+8≤L.length*8)=True:=eq_true (by omega)
 have vq:=vF L q
 generalize hQ:L.getD q v0=Q at *
 have z0:((0:Int)<3)=True:=eq_true (by omega)
 have z1:((1:Int)<3)=True:=eq_true (by omega)
 have z2:((2:Int)<3)=True:=eq_true (by omega)
 have z3:((3:Int)<3)=False:=eq_false (by omega)
 have t1:IntKind.i64.wrap (0+1)=1:=rfl
 have t2:IntKind.i64.wrap (1+1)=2:=rfl
 have t3:IntKind.i64.wrap (2+1)=3:=rfl
 have r1:(1:Int).tmod 3=1:=rfl
 have r2:(2:Int).tmod 3=2:=rfl
 have r3:(3:Int).tmod 3=0:=rfl
 have c3:((3:Nat):Int)=3:=rfl
 have d0:Int.toNat 0=0:=rfl
 have d1:Int.toNat 1=1:=rfl
 have d2:Int.toNat 2=2:=rfl
 have c11:((1:Nat):Int)=1:=rfl
 have c22:((2:Nat):Int)=2:=rfl
 have n3:((3:Int)=0)=False:=eq_false (by omega)
 have p0:((0:Int)≤0)=True:=eq_true (by omega)
 have p1:((0:Int)≤1)=True:=eq_true (by omega)
 have p2:((0:Int)≤2)=True:=eq_true (by omega)
 have o1:IntKind.i64.wrap 1=1:=rfl
 have o2:IntKind.i64.wrap 2=2:=rfl
 have o3:IntKind.i64.wrap 0=0:=rfl
 refine Xd (fun i:Nat=>⟨11,[52,53,54,77,78,79],[kL L R,I p,.any,.any,.any,I a,I c,Mq A B C,.any,I q,.any],[(77,Mq A B C),(78,I 3),(79,I i),(52,X4 (zs R)),(53,I R.length),(54,I j)],[]⟩) (fun i=>i≤3∧((0<i→0≤Jm A B Q)∧(1<i→0≤Jm B C Q)∧(2<i→0≤Jm C A Q))) (fun i=>3 - i) 0 ⟨by omega,by omega,by omega,by omega⟩
  (Xg rfl (by simp [Xf,XU,X5,X3,XG,XQ,I]) (by simp [Xm,Xq,X3,XG,XQ,I]) rfl) ?_
 rintro i ⟨hi,hin⟩ next2
 rcases (show i=0∨i=1∨i=2∨i=3 by omega) with rfl | rfl | rfl | rfl
 ·have cs:=Z3 A B Q (by unfold vs; omega) (by unfold vs; omega) (by unfold vs; omega)
  have n2:=next2 1
  refine Xj ?_
  simp only [XU,X5,X3,XG,XQ,w1,z0,z1,z2,z3,t1,t2,t3,x1,x2,x3,o1,o2,o3,c3,d0,d1,d2,c11,c22,n3,p0,p1,p2,not_false_eq_true,true_and,r1,r2,r3,vq,Int.toNat_natCast,↓X1,wA,↓reduceIte,reduceIte,reduceCtorEq,Y1,Y2,Y3,Y4,Y5,Y6,Y7,Y8,Y9,YA,wE]
  refine X0 cs rfl ?_
  by_cases hneg:Jm A B Q<0
  ·simp only [eq_true hneg,XU,X5,X3,XG,XQ,w1,↓X1,wA,↓reduceIte,reduceIte,reduceCtorEq,Y1,Y2,Y3,Y4,Y5,Y6,Y7,Y8,Y9,YA,wE]
   exact nx _ ⟨by omega,hgo (.inr (.inr (.inr fun hh=>by unfold pQ at hh; omega)))⟩ (by omega) (Xg rfl (by simp [Xf,XU,X5,X3,XG,XQ,I]) (by simp [Xm,Xq,X3,XG,I]) rfl)
  ·simp only [eq_false hneg,XU,X5,X3,XG,XQ,w1,t1,t2,t3,↓X1,wA,↓reduceIte,reduceIte,reduceCtorEq,Y1,Y2,Y3,Y4,Y5,Y6,Y7,Y8,Y9,YA,wE]
   exact n2 _ ⟨by omega,by omega⟩ (by omega) (Xg rfl (by simp [Xf,XU,X5,X3,XG,XQ,I]) (by simp [Xm,Xq,X3,XG,XQ,I]) rfl)
 ·have cs:=Z3 B C Q (by unfold vs; omega) (by unfold vs; omega) (by unfold vs; omega)
  have n2:=next2 2
  refine Xj ?_
  simp only [XU,X5,X3,XG,XQ,w1,z0,z1,z2,z3,t1,t2,t3,x1,x2,x3,o1,o2,o3,c3,d0,d1,d2,c11,c22,n3,p0,p1,p2,not_false_eq_true,true_and,r1,r2,r3,vq,Int.toNat_natCast,↓X1,wA,↓reduceIte,reduceIte,reduceCtorEq,Y1,Y2,Y3,Y4,Y5,Y6,Y7,Y8,Y9,YA,wE]
  refine X0 cs rfl ?_
  by_cases hneg:Jm B C Q<0
  ·simp only [eq_true hneg,XU,X5,X3,XG,XQ,w1,↓X1,wA,↓reduceIte,reduceIte,reduceCtorEq,Y1,Y2,Y3,Y4,Y5,Y6,Y7,Y8,Y9,YA,wE]
   exact nx _ ⟨by omega,hgo (.inr (.inr (.inr fun hh=>by unfold pQ at hh; omega)))⟩ (by omega) (Xg rfl (by simp [Xf,XU,X5,X3,XG,XQ,I]) (by simp [Xm,Xq,X3,XG,I]) rfl)
  ·simp only [eq_false hneg,XU,X5,X3,XG,XQ,w1,t1,t2,t3,↓X1,wA,↓reduceIte,reduceIte,reduceCtorEq,Y1,Y2,Y3,Y4,Y5,Y6,Y7,Y8,Y9,YA,wE]
   exact n2 _ ⟨by omega,by omega⟩ (by omega) (Xg rfl (by simp [Xf,XU,X5,X3,XG,XQ,I]) (by simp [Xm,Xq,X3,XG,XQ,I]) rfl)
 ·have cs:=Z3 C A Q (by unfold vs; omega) (by unfold vs; omega) (by unfold vs; omega)
  have n2:=next2 3
  refine Xj ?_
  simp only [XU,X5,X3,XG,XQ,w1,z0,z1,z2,z3,t1,t2,t3,x1,x2,x3,o1,o2,o3,c3,d0,d1,d2,c11,c22,n3,p0,p1,p2,not_false_eq_true,true_and,r1,r2,r3,vq,Int.toNat_natCast,↓X1,wA,↓reduceIte,reduceIte,reduceCtorEq,Y1,Y2,Y3,Y4,Y5,Y6,Y7,Y8,Y9,YA,wE]
  refine X0 cs rfl ?_
  by_cases hneg:Jm C A Q<0
  ·simp only [eq_true hneg,XU,X5,X3,XG,XQ,w1,↓X1,wA,↓reduceIte,reduceIte,reduceCtorEq,Y1,Y2,Y3,Y4,Y5,Y6,Y7,Y8,Y9,YA,wE]
   exact nx _ ⟨by omega,hgo (.inr (.inr (.inr fun hh=>by unfold pQ at hh; omega)))⟩ (by omega) (Xg rfl (by simp [Xf,XU,X5,X3,XG,XQ,I]) (by simp [Xm,Xq,X3,XG,I]) rfl)
  ·simp only [eq_false hneg,XU,X5,X3,XG,XQ,w1,t1,t2,t3,↓X1,wA,↓reduceIte,reduceIte,reduceCtorEq,Y1,Y2,Y3,Y4,Y5,Y6,Y7,Y8,Y9,YA,wE]
   exact n2 _ ⟨by omega,by omega⟩ (by omega) (Xg rfl (by simp [Xf,XU,X5,X3,XG,XQ,I]) (by simp [Xm,Xq,X3,XG,XQ,I]) rfl)
 ·have hE:E=false:=hstop (by
   rintro (e | e | e | e)
   ·exact q1 e
   ·exact q2 e
   ·exact q3 e
   ·exact e ⟨hin.1 (by omega),hin.2.1 (by omega),hin.2.2 (by omega)⟩)
  refine Xj ?_
  simp only [XU,X5,X3,XG,XQ,z3,c3,↓X1,wA,↓reduceIte,reduceIte,reduceCtorEq,Y1,Y2,Y3,Y4,Y5,Y6,Y7,Y8,Y9,YA,wE]
  exact Xv (v:=.bool false) rfl rfl (X2 _) (by rw [hE])
theorem Ms (i:Nat):zs (List.range (i+1))=zs (List.range i) ++ [(i:Int)]:=by unfold zs; rw [List.range_succ,List.map_append]; rfl
theorem qS (L:List V2) (hl:L.length<1000000):HCall Tryz.prog 273 [Xx L] [] (.ref 0 0 0) (Ln L (2*L.length) (List.range L.length)):=by
 refine HCall.intro (fn:=Tryz.f273) Tryz.call273 Tryz.func273 rfl mixed 5 [8,9,10] [] [] (by kernel_rfl) (Nat.le_of_ble_eq_true rfl) (Xj ?_)
 simp only [AS.start,X5,↓X1,wF,seval]
 refine Xd (fun i:Nat=>⟨5,[8,9,10],[.any,.any,.any,.ref 0 0 0,.any],[(8,Xx L),(9,I L.length),(10,I i)],[.row 0 2 (Xk [Xx L,.osl 1 i 1 0 i]),.row i i (Qb I 0 (zs (List.range i)))]⟩) (fun i=>i≤L.length) (fun i=>L.length - i) 0 (by omega)
  (Sub.trans (I9 (Qb I 0 (zs (List.range 0)))) (Sub.trans (Z4 0 (Xk [Xx L,.osl 1 0 1 0 0]) rfl (fun j hj=>by
   match j,hj with
   | 0,_=>exact Qc _ _
   | 1,_ =>
    show Kt _ (.sl 0 0 (fun _=>.any) true) (.osl 1 0 1 0 0)
    exact Az (n:=0) (f:=Qb I 0 (zs (List.range 0))) rfl
   | j+2,h=>exact absurd h (by show ¬ j+2<2; omega))) (Xg rfl (by simp [Xf]) (by simp [Xm,Xq,X5,I]) rfl))) ?_
 intro i hi next
 have w1:=wj i (by omega)
 by_cases hi2:i<L.length
 rotate_left
 ·obtain rfl:i=L.length:=by omega
  refine Xj ?_
  simp only [X5,Int.lt_irrefl,Nat.lt_irrefl,↓X1,wF,seval]
  refine Ll rfl rfl ?_
  rw [J7,List.length_range,show 2*L.length - L.length=L.length by omega,X5]
 have nx:=next (i+1)
 rw [Ms] at nx
 have hz:(zs (List.range i)).length=i:=by rw [XG,List.length_range]
 generalize zs (List.range i)=Z at *
 have f1:((i:Int)<L.length)=True:=eq_true (by omega)
 have f2:(i<L.length)=True:=eq_true hi2
 have hap:=ED Z (i:Int)
 rw [hz] at hap
 refine Xj ?_
 simp only [X5,w1,f1,f2,Int.toNat_natCast,↓X1,wF,seval]
 exact ⟨⟨by omega,by omega⟩,nx _ (by omega) (by omega) (Xg rfl (by simp [Xf]) (by simp [Xm,Xq,X5,I]) (by rw [← hap]; rfl))⟩
theorem rk (L:List V2) (N:Nat) (R:List Nat) (p k:Nat) (h:Rok L R) (hd:R.Nodup) (hN:R.length≤N) (h3:3<R.length) (hp:p<R.length) (hs:Qs L k) (hk:k≤10000) :
  HCall Tryz.prog 275 [.ref 0 0 0,I p] (Ln L N R) (.agg [I (nr R (p+R.length - 1)),I (R.getD p 0:Nat),I (nr R (p+R.length+1))]) (Ln L N (A5 L (R.length - 1) (R.eraseIdx p))):=by
 have c1:=Ge L R p h (by have:=h.len; omega)
 have cd:=MM (.row 0 2 (Xk [Xx L,.osl 1 (N - R.length) 1 0 R.length])) (zs R) (N - R.length) p (by rw [XG]; exact hp)
 rw [XG,T4] at cd
 have hl:(R.eraseIdx p).length=R.length - 1:=by rw [List.length_eraseIdx,if_pos hp]
 have cc:=fE L N (R.eraseIdx p) k (E8 h h3 hp) (hd.eraseIdx p) (by omega) hs hk
 rw [hl] at cc
 have v2:=Eu R p
 have hR:=h
 obtain ⟨h0,hn,hmem,hL⟩:=hR
 generalize A5 L (R.length - 1) (R.eraseIdx p)=R2 at *
 generalize nr R (p+R.length - 1)=a at *
 generalize nr R (p+R.length+1)=c at *
 generalize R.getD p 0=b at *
 have f1:((p:Int)<R.length)=True:=eq_true (by omega)
 have f2:(p<R.length)=True:=eq_true hp
 have f3:(p+1≤R.length)=True:=eq_true (by omega)
 have w1:=wj p (by omega)
 refine HCall.introC (fn:=Tryz.f275) Tryz.call275 Tryz.func275 rfl mixed 8 [] [] [] (by kernel_rfl) (Nat.le_of_ble_eq_true rfl) (X7 (Qo (by simp [X9]))) (fun o ho=>((Kk _ _ _).2 o ho).1) (Xj ?_)
 simp only [AS.start,J7,List.cons_append,List.nil_append,↓X1,wF,seval]
 refine Jz c1 rfl ⟨I8 (N:=N) (rest:=[.row 0 3 (Xk [I 0,I 0,I 0])]),QE (X9 _) rfl,trivial⟩ (gO (by simp [I,BN])) ?_
 simp only [w1,f1,f2,f3,v2,Int.toNat_natCast,↓X1,wF,seval]
 have o2:∀ o∈[AO.row 0 2 (Xk [Xx L,.osl 1 (N - R.length) 1 0 R.length]),.row (N - R.length+1) (R.length - 1) (Qb I 0 (zs (R.eraseIdx p)))],o≠.unborn∧∀ v n f,o≠.con v n f:=fun o ho=>by
  simp only [List.mem_cons,List.not_mem_nil,or_false] at ho
  rcases ho with rfl | rfl <;> exact ⟨by simp,by simp⟩
 have bA:∀ a∈[AV.osl 1 (N - R.length) 1 0 R.length,I p,I ((p+1:Nat):Int)],Ko 2 a:=fun a ha=>by
  simp only [List.mem_cons,List.not_mem_nil,or_false] at ha
  rcases ha with rfl | rfl | rfl
  ·exact HR (by omega)
  ·exact X7 (X9 _)
  ·exact X7 (X9 _)
 have bR:∀ a∈[AV.ref 0 0 0],Ko 2 a:=fun a ha=>by
  rw [List.mem_singleton.1 ha]
  have:Ko 2 (.ref 0 0 0)=True:=by simp [XA]
  exact this▸trivial
 refine C6 (H1:=Ln L N R) (H1':=[AO.row 0 2 (Xk [Xx L,.osl 1 (N - R.length) 1 0 R.length]),.row (N - R.length+1) (R.length - 1) (Qb I 0 (zs (R.eraseIdx p)))]) (rest:=[.row 0 3 (Xk [I 0,I 0,I 0]),.row 0 3 (Xk [I a,I b,I c])]) rfl cd rfl rfl bA (fun o ho=>((Kk L N R).2 o ho).1) (fun o ho=>((Kk L N R).2 o ho).2.1) (fun o ho=>(o2 o ho).1) (QU (fun o ho=>((Kk L N R).2 o ho).2.2) (fun o ho=>(o2 o ho).2)) (Qj _) ?_
 simp only [List.cons_append,List.nil_append,↓X1,wF,seval]
 refine C6 (H1:=Ln L N (R.eraseIdx p)) (H1':=Ln L N R2) (rest:=[.row 0 3 (Xk [I 0,I 0,I 0]),.row 0 3 (Xk [I a,I b,I c])]) rfl cc (by rw [J7,hl,show N - (R.length - 1)=N - R.length+1 by omega]; rfl) rfl bR (fun o ho=>((Kk L N _).2 o ho).1) (fun o ho=>((Kk L N _).2 o ho).2.1) (fun o ho=>((Kk L N _).2 o ho).2.1) (QU (fun o ho=>((Kk L N _).2 o ho).2.2) (fun o ho=>((Kk L N _).2 o ho).2.2)) (Qj _) ?_
 simp only [J7,List.cons_append,List.nil_append,↓X1,wF,seval]
 exact Wq (v:=.agg [I a,I b,I c]) rfl (by simp [AS.get,JK,iq,rd,Qz,Xk,BT,I]) rfl rfl
theorem xE {a b:Int} (h:a<b):(a<b)=True:=eq_true h
theorem wX {a b:Int} (h:b≤a):(a<b)=False:=eq_false (by omega)
theorem xD {a b:Int} (h:a≤b):(a≤b)=True:=eq_true h
theorem wW {a b:Int} (h:b<a):(a≤b)=False:=eq_false (by omega)
theorem xC {a b:Int} (h:a=b):(a=b)=True:=eq_true h
theorem wV {a b:Int} (h:a≠b):(a=b)=False:=eq_false h
theorem xH {a b:Nat} (h:a<b):(a<b)=True:=eq_true h
theorem xh {a b:Nat} (h:b≤a):(a<b)=False:=eq_false (by omega)
theorem xG {a b:Nat} (h:a≤b):(a≤b)=True:=eq_true h
theorem xg {a b:Nat} (h:b<a):(a≤b)=False:=eq_false (by omega)
theorem xe {a b:Nat} (h:a=b):(a=b)=True:=eq_true h
theorem xf {a b:Nat} (h:a≠b):(a=b)=False:=eq_false h
theorem vd {x:Int} (h:-9223372036854775808≤x∧x<9223372036854775808):IntKind.i64.wrap x=x:=by rw [IntKind.wrap_i64]; omega
theorem wY {n:Nat}:(n:Int).toNat=n:=Int.toNat_natCast n
theorem wr (f:Nat→AV) (i:Nat) (v:AV) (j:Nat):C1 f i v j=if j=i then v else f j:=nrfl rfl
def d7 (l:List AV) (i:Nat) (a:AV):Nat→AV:=C1 (Xk l) i a
def VA (x:AV) (f:Nat→AV):Nat→AV:=fun j=>match j with | 0=>x | j+1=>f j
theorem ug (l:List AV) (i:Nat) (a:AV):C1 (Xk l) i a=d7 l i a:=nrfl rfl
theorem uk (x a:AV) (l:List AV):d7 (x :: l) 0 a=Xk (a :: l):=by
 funext j; unfold d7 C1 Xk; cases j <;> simp
theorem uh (x a:AV) (l:List AV) (n:Nat):d7 (x :: l) (n+1) a=VA x (d7 l n a):=by
 funext j; unfold d7 C1 Xk VA; cases j <;> simp
theorem mq (x:AV) (l:List AV):VA x (Xk l)=Xk (x :: l):=by
 funext j; unfold Xk VA; cases j <;> simp
def sg (x:Rat):Bool:=decide (x.num<0)
theorem xr (x:Rat):decide (x.num<0)=sg x:=nrfl rfl
set_option linter.defProp false in
def wD:=And.intro @wr (And.intro @ug <| And.intro @uk <| And.intro @uh <| And.intro @mq <| And.intro @xE (And.intro @wX (And.intro @xD (And.intro @wW (And.intro @xC (And.intro @wV (And.intro @xH (And.intro @xh (And.intro @xG (And.intro @xg (And.intro @xe (And.intro @xf (And.intro @vd @wY)))))))))))))
set_option linter.defProp false in
def Xy:=And.intro @xr X1
set_option linter.defProp false in
def wG:=And.intro wD wF
def tC (d:Nat×Nat×Nat):List AV:=[I d.1,I d.2.1,I d.2.2]
theorem Lu (d:Nat×Nat×Nat):∀ x∈tC d,Settled x:=by simp [tC,X9]
def ua (l:List (Nat×Nat×Nat)):AV:=uB tC 3 (0,0,0) l
theorem Ea (l:List (Nat×Nat×Nat)):ua l=.sl l.length (l.length*3) (Xt tC 3 (0,0,0) l) false:=nrfl rfl
theorem SB (l:List (Nat×Nat×Nat)):Settled (ua l):=QX fun j _=>Xe (Lu _) _
def D5 (L:List V2) (R:List Nat):Nat:=(List.range (R.length - 1)).findIdx (B9 L R)
theorem VJ (L:List V2) (R:List Nat):D5 L R≤R.length - 1:=by
 have:=List.findIdx_le_length (xs:=List.range (R.length - 1)) (p:=B9 L R)
 rwa [List.length_range] at this
theorem mE {L:List V2} {R:List Nat} {p:Nat} (h1:p≤R.length - 1) (h2:∀ j,j<p→B9 L R j=false) (h3:p=R.length - 1∨B9 L R p=true):D5 L R=p:=by
 have hle:=VJ L R
 rcases Nat.lt_trichotomy (D5 L R) p with h | h | h
 ·have:=List.findIdx_getElem (xs:=List.range (R.length - 1)) (p:=B9 L R) (w:=by rw [List.length_range]; unfold D5 at h; omega)
  rw [List.getElem_range] at this
  have h4:=h2 _ h
  unfold D5 at h4
  rw [h4] at this; cases this
 ·exact h
 ·rcases h3 with h3 | h3
  ·omega
  ·have:=List.not_of_lt_findIdx (xs:=List.range (R.length - 1)) (p:=B9 L R) (i:=p) h
   rw [List.getElem_range,h3] at this
   exact absurd this (by simp)
def HG (R:List Nat) (p:Nat):Nat×Nat×Nat:=(nr R (p+R.length - 1),R.getD p 0,nr R (p+R.length+1))
def D0 (L:List V2) (R:List Nat):List Nat:=A5 L (R.length - 1) (R.eraseIdx (D5 L R))
def AH (L:List V2):Nat→List Nat→List (Nat×Nat×Nat)
 | 0,R=>[(R.getD 0 0,R.getD 1 0,R.getD 2 0)]
 | f+1,R=>if 3<R.length then HG R (D5 L R) :: AH L f (D0 L R) else [(R.getD 0 0,R.getD 1 0,R.getD 2 0)]
def CK (L:List V2):List (Nat×Nat×Nat):=AH L L.length (List.range L.length)
theorem fH (L:List V2):∀ (f:Nat) (R:List Nat),Rok L R→R.Nodup→3≤R.length→Rok L (A5 L f R)∧(A5 L f R).Nodup∧3≤(A5 L f R).length∧(A5 L f R).length≤R.length
 | 0,R,h,hd,h3=>⟨h,hd,h3,Nat.le_refl _⟩
 | f+1,R,h,hd,h3=>by
  unfold A5
  split
  ·rename_i hc
   have hl:(R.eraseIdx (Zd L R)).length=R.length - 1:=by rw [List.length_eraseIdx,if_pos hc.2]
   obtain ⟨a1,a2,a3,a4⟩:=fH L f _ (E8 h hc.1 hc.2) (hd.eraseIdx _) (by omega)
   exact ⟨a1,a2,a3,by omega⟩
  ·exact ⟨h,hd,h3,Nat.le_refl _⟩
theorem Fj {L:List V2} {R:List Nat} (h:Rok L R) (hd:R.Nodup) (h3:3<R.length):Rok L (D0 L R)∧(D0 L R).Nodup∧3≤(D0 L R).length∧(D0 L R).length≤R.length - 1:=by
 have hp:D5 L R<R.length:=by have:=VJ L R; omega
 have hl:(R.eraseIdx (D5 L R)).length=R.length - 1:=by rw [List.length_eraseIdx,if_pos hp]
 obtain ⟨a1,a2,a3,a4⟩:=fH L (R.length - 1) _ (E8 h h3 hp) (hd.eraseIdx _) (by omega)
 exact ⟨a1,a2,a3,by unfold D0; omega⟩
theorem ML (L:List V2):∀ (f g:Nat) (R:List Nat),Rok L R→R.Nodup→R.length≤f→R.length≤g→AH L f R=AH L g R
 | 0,g,R,h,_,hf,_=>by have:=h.pos; omega
 | f+1,0,R,h,_,_,hg=>by have:=h.pos; omega
 | f+1,g+1,R,h,hd,hf,hg=>by
  unfold AH
  split
  ·rename_i h3
   obtain ⟨a1,a2,a3,a4⟩:=Fj h hd h3
   rw [ML L f g _ a1 a2 (by omega) (by omega)]
  ·rfl
theorem mu {L:List V2} {R:List Nat} (h:Rok L R) (hd:R.Nodup) (h3:3<R.length):AH L R.length R=HG R (D5 L R) :: AH L (D0 L R).length (D0 L R):=by
 obtain ⟨a1,a2,a3,a4⟩:=Fj h hd h3
 cases hl:R.length with
 | zero=>omega
 | succ n =>
  show (if 3<R.length then _ else _)=_
  rw [if_pos h3,ML L n (D0 L R).length _ a1 a2 (by omega) (Nat.le_refl _)]
theorem fU {L:List V2} {R:List Nat} (h3:¬ 3<R.length) (f:Nat):AH L f R=[(R.getD 0 0,R.getD 1 0,R.getD 2 0)]:=by
 cases f with
 | zero=>rfl
 | succ n=>unfold AH; rw [if_neg h3]
theorem E9 {L:List V2} (h:3≤L.length) (hl:L.length<1000000):Rok L (List.range L.length):=⟨by rw [List.length_range]; omega,by rw [List.length_range]; omega,fun j=>by
 rw [List.getD_eq_getElem?_getD]
 by_cases hj:j<L.length
 ·rw [List.getElem?_range hj]; exact hj
 ·rw [List.getElem?_eq_none (by rw [List.length_range]; omega)]; show 0<L.length; omega,hl⟩
theorem oN {P:Program} {fn:Func} {str hcs:List Nat} {s:AS} {t u id ver:Nat} {e:AV} (D:List (Nat×Nat×Nat)) (hr:fn.results=#[.tmp t,.tmp u]) (hs:s.get t=.osl id ver 3 0 D.length) (ho:s.h[id]?=some (.row ver (D.length*3) (Xt tC 3 (0,0,0) D))) (hu:s.get u=e) (he:Settled e):RetOk (QS P fn str hcs (.tup [ua D,e])) s:=by
 refine jv hr (B6 ⟨?_,QE he hu,trivial⟩)
 rw [hs,Ea]
 refine Jk (.inl ho) (by omega) (fun h=>by rw [h]) fun j hj=>?_
 rw [Nat.zero_add]
 exact (Xe (Lu _) _).sees _
theorem jO (c:Nat×Nat×Nat):∀ j,j<3→((tC c).getD j .any).one=true:=fun j hj=>by
 match j,hj with
 | 0,_=>rfl
 | 1,_=>rfl
 | 2,_=>rfl
 | j+3,h=>omega
theorem mi (L:List V2) (k:Nat) (hs:Qs L k) (hk:k≤1000) (hp:Cl L):Fn Tryz.prog 263 [Xx L] (.tup [ua (CK L),I 0]):=by
 have hl:=hp.1
 have cv:=bU L (fun i=>Nat.le_trans (hs i) hk) (by omega)
 rw [decide_eq_true hp] at cv
 have ca:=qS L (by omega)
 obtain ⟨T,hT⟩:∃ T,T=CK L:=⟨_,rfl⟩
 rw [← hT]
 have h0:=E9 hl.1 (by omega)
 have d0:(List.range L.length).Nodup:=List.nodup_range
 refine Fq Tryz.call263 Tryz.func263 7 [] [] [3,9] (by simp [Xh]) (Xj ?_)
 simp only [AS.start,↓X1,wF,seval]
 refine X0 cv rfl ?_
 simp only [↓X1,wF,seval]
 refine KK rfl ca (QU (fun o h=>absurd h (List.not_mem_nil)) (fun o ho=>((Kk _ _ _).2 o ho).2.2)) (fun id=>by simp) (Qj _) ?_
 have hlr:(List.range L.length).length=L.length:=List.length_range
 have hTc:T=AH L (List.range L.length).length (List.range L.length):=by rw [hT,hlr]; rfl
 generalize hN:2*L.length=N
 generalize List.range L.length=R0 at *
 simp only [J7,↓X1,wF,seval]
 refine Xd (fun w:List (Nat×Nat×Nat)×List Nat=>⟨7,[],[Xx L,.any,.any,.any,.ref 0 0 0,.osl 2 w.1.length 3 0 w.1.length,.any],[],Ln L N w.2 ++ [.row w.1.length (w.1.length*3) (Xt tC 3 (0,0,0) w.1)]⟩) (fun w=>Rok L w.2∧w.2.Nodup∧3≤w.2.length∧w.1.length+w.2.length≤L.length∧w.1 ++ AH L w.2.length w.2=T) (fun w=>w.2.length) ([],R0) ⟨h0,d0,by show 3≤R0.length; omega,by simp [hlr],by rw [hTc]; rfl⟩
  (Sub.trans (Jd 5 3 (Xt tC 3 (0,0,0) []) rfl) (Xg rfl (by simp [AS.put,Xf]) (by simp [AS.put,Xm]) (by simp [AS.put,J7]))) ?_
 rintro ⟨D,R⟩ ⟨h,hd,h3,hDl,hDT⟩ next
 replace h:Rok L R:=h
 replace hd:R.Nodup:=hd
 replace h3:3≤R.length:=h3
 replace hDl:D.length+R.length≤L.length:=hDl
 replace hDT:D ++ AH L R.length R=T:=hDT
 have hNR:R.length≤N:=by omega
 by_cases h4:3<R.length
 rotate_left
 ·have e3:R.length=3:=by omega
  rw [fU h4] at hDT
  have hap:=QN tC 3 (0,0,0) D (R.getD 0 0,R.getD 1 0,R.getD 2 0) (by omega)
  rw [hDT] at hap
  have hTl:T.length=D.length+1:=by rw [← hDT]; simp
  refine Xj ?_
  simp (disch:=omega) only [J7,List.cons_append,List.nil_append,Eu,K7,wD,↓X1,wF,seval]
  exact ⟨jO (R.getD 0 0,R.getD 1 0,R.getD 2 0),oN T rfl (by rw [hTl]; rfl) (by rw [hTl,← hap]; rfl) rfl (X9 _)⟩
 have hgo:=mu h hd h4
 obtain ⟨b1,b2,b3,b4⟩:=Fj h hd h4
 refine Xj ?_
 simp (disch:=omega) only [J7,List.cons_append,List.nil_append,wD,↓X1,wF,seval]
 refine Xd (fun p:Nat=>⟨7,[],[Xx L,.any,.any,.any,.ref 0 0 0,.osl 2 D.length 3 0 D.length,I p],[],Ln L N R ++ [.row D.length (D.length*3) (Xt tC 3 (0,0,0) D)]⟩) (fun p=>p≤R.length - 1∧∀ j,j<p→B9 L R j=false) (fun p=>R.length - p) 0 ⟨by omega,fun j hj=>absurd hj (Nat.not_lt_zero j)⟩
  (Kq (by simp [Xf,I]) (by simp [J7])) ?_
 rintro p ⟨hp1,hno⟩ next2
 have hn:=h.len
 have ce:=rq L R p k h (by omega) hs (by omega)
 have cc:=rk L N R p k h hd hNR h4 (by omega) hs (by omega)
 have hlr:(R.eraseIdx p).length=R.length - 1:=by rw [List.length_eraseIdx,if_pos (by omega)]
 by_cases hgo2:p<R.length - 1∧B9 L R p=false
 ·refine Xj ?_
  simp (disch:=omega) only [J7,List.cons_append,List.nil_append,wD,↓X1,wF,seval]
  refine Jz ce rfl ⟨I8,QE (X9 _) rfl,trivial⟩ (ZN _) ?_
  simp (disch:=omega) only [hgo2.2,J7,List.cons_append,List.nil_append,wD,↓X1,wF,seval]
  exact next2 (p+1) _ ⟨by omega,BG.2 ⟨hno,hgo2.2⟩⟩ (by omega) (Kq (by simp [Xf,I]) (by simp [J7]))
 have hep:D5 L R=p:=mE hp1 hno (by
  by_cases h1:p=R.length - 1
  ·exact .inl h1
  ·right
   cases he:B9 L R p with
   | true=>rfl
   | false=>exact absurd ⟨by omega,he⟩ hgo2)
 have hD:(D ++ [HG R p]) ++ AH L (D0 L R).length (D0 L R)=T:=by rw [← hDT,hgo,hep,List.append_assoc]; rfl
 have hap:=QN tC 3 (0,0,0) D (HG R p) (by omega)
 have hcs:A5 L (R.length - 1) (R.eraseIdx p)=D0 L R:=by unfold D0; rw [hep]
 rw [hcs] at cc
 have hDn:(D ++ [HG R p]).length=D.length+1:=by simp
 have nx:=next (D ++ [HG R p],D0 L R)
 rw [List.length_append,List.length_singleton] at nx
 have htr:tC (HG R p)=[I (nr R (p+R.length - 1)),I (R.getD p 0:Nat),I (nr R (p+R.length+1))]:=rfl
 have hone:=jO (HG R p)
 rw [htr] at hap hone
 generalize D ++ [HG R p]=D2 at *
 generalize D0 L R=R2 at *
 generalize nr R (p+R.length - 1)=a at *
 generalize nr R (p+R.length+1)=c at *
 generalize R.getD p 0=b at *
 clear hgo hcs htr
 have bR:∀ a∈[AV.ref 0 0 0,I p],Ko 2 a:=fun a ha=>by
  simp only [List.mem_cons,List.not_mem_nil,or_false] at ha
  rcases ha with rfl | rfl
  ·have:Ko 2 (.ref 0 0 0)=True:=by simp [XA]
   exact this▸trivial
  ·exact X7 (X9 _)
 refine Xj ?_
 by_cases hl:p<R.length - 1
 have he:B9 L R p=true:=by
  cases he:B9 L R p with
  | true=>rfl
  | false=>exact absurd ⟨hl,he⟩ hgo2
 simp (disch:=omega) only [J7,List.cons_append,List.nil_append,wD,↓X1,wF,seval]
 refine Jz ce rfl ⟨I8,QE (X9 _) rfl,trivial⟩ (ZN _) ?_
 simp (disch:=omega) only [he,J7,List.cons_append,List.nil_append,wD,↓X1,wF,seval]
 rotate_left
 simp (disch:=omega) only [J7,List.cons_append,List.nil_append,wD,↓X1,wF,seval]
 all_goals
  refine C6 (H1:=Ln L N R) (H1':=Ln L N R2) (rest:=[.row D.length (D.length*3) (Xt tC 3 (0,0,0) D)]) rfl cc rfl rfl bR (fun o ho=>((Kk L N R).2 o ho).1) (fun o ho=>((Kk L N _).2 o ho).2.1) (fun o ho=>((Kk L N _).2 o ho).2.1) (QU (fun o ho=>((Kk L N _).2 o ho).2.2) (fun o ho=>((Kk L N _).2 o ho).2.2)) (Qj _) ?_
  simp (disch:=omega) only [J7,List.cons_append,List.nil_append,wD,↓X1,wF,seval]
  exact ⟨hone,nx _ ⟨b1,b2,b3,by show D.length+1+R2.length≤L.length; omega,hD⟩ (by show R2.length<R.length; omega) (Kq (by simp [Xf]) (by rw [← hap]; simp [J7,I]))⟩
end
end Go.Ab.N
