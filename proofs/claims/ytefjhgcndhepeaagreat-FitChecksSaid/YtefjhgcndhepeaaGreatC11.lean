/- Contracts of functions, for arguments that fit. -/
import Derived.Test.YtefjhgcndhepeaaGreatC10
import Derived.Shelf.SlicesE.Delete
import Derived.Test.YtefjhgcndhepeaaGreatC3
import Derived.Test.YtefjhgcndhepeaaGreatC6
set_option linter.unusedSimpArgs false
set_option linter.unusedVariables false
open Nat renaming reducePow → Y1, reduceLT → Y2, reduceLeDiff → Y3, reduceEqDiff → Y4, reduceAdd → Y5, reduceMul → Y6, reduceSub → Y7, reduceBEq → Y8, reduceDiv → Y9, reduceMod → YA
namespace Go.Ab.N
open Go Go.RowKit Go.Proofs
noncomputable section
set_option maxRecDepth 10000
set_option maxHeartbeats 4000000
open Classical
noncomputable def lU (A B:List (List V2)) (e:Rat) (n:Nat):V2:=(Zv (A.getD (n / B.length) []) (B.getD (n % B.length) []) e).1
noncomputable def Dr (A B:List (List V2)) (e:Rat) (n:Nat):List V2:=(List.range n).map (lU A B e)
theorem fu (A B:List (List V2)) (e:Rat) (n:Nat):(Dr A B e n).length=n:=by unfold Dr; rw [List.length_map,List.length_range]
theorem YW (A B:List (List V2)) (e:Rat) (n:Nat):Dr A B e (n+1)=Dr A B e n ++ [lU A B e n]:=by unfold Dr; rw [List.range_succ,List.map_append]; rfl
theorem lV (A B:List (List V2)) (e:Rat) (i k:Nat) (hk:k<B.length):lU A B e (i*B.length+k)=(Zv (A.getD i []) (B.getD k []) e).1:=by
 unfold lU
 rw [show i*B.length+k=k+B.length*i by rw [Nat.mul_comm,Nat.add_comm],Nat.add_mul_div_left _ _ (by omega),Nat.add_mul_mod_self_left,Nat.div_eq_of_lt hk,Nat.mod_eq_of_lt hk,Nat.zero_add]
def GW (e:Rat) (W:List V2):List AO:=[.row 0 4 (Xo (qC e)),.row 0 1 (Xo [.sl 0 0 (fun _=>.any) true]),.row 0 1 (Xo [.bool false]),.row 0 1 (Xo [.osl 4 W.length 8 0 W.length]),.row W.length (W.length*8) (Xs vC 8 v0 W)]
theorem IJ (e:Rat) (W:List V2):GW e W=[.row 0 4 (Xo (qC e)),.row 0 1 (Xo [.sl 0 0 (fun _=>.any) true]),.row 0 1 (Xo [.bool false]),.row 0 1 (Xo [.osl 4 W.length 8 0 W.length]),.row W.length (W.length*8) (Xs vC 8 v0 W)]:=nrfl rfl
theorem Om (e:Rat) (W:List V2):Pn 5 (GW e W):=by
 have hvc:∀ a:V2,∀ x∈vC a,Settled x:=fun a=>by simp [vC,X7,X3]
 refine ⟨rfl,fun o ho=>?_⟩
 simp only [GW,List.mem_cons,List.not_mem_nil,or_false] at ho
 rcases ho with rfl | rfl | rfl | rfl | rfl
 ·exact ⟨by simp [qC,Xv],by simp,by simp⟩
 ·exact ⟨by simp [Xv],by simp,by simp⟩
 ·exact ⟨by simp [Xv],by simp,by simp⟩
 ·exact ⟨by simp [Xv],by simp,by simp⟩
 ·exact ⟨fun j _=>X6 (Xc (hvc _) _),by simp,by simp⟩
theorem p9 {p:Nat→Prop}:∀ n,p n→∃ n,p n∧∀ m,m<n→¬ p m:=by
 intro n
 induction n using Nat.strongRecOn with
 | ind n ih =>
  intro h
  by_cases hm:∃ m,m<n∧p m
  ·obtain ⟨m,h1,h2⟩:=hm
   exact ih m h1 h2
  ·exact ⟨n,h,fun m hm' hp=>hm ⟨m,hm',hp⟩⟩
def Yh (e:Rat) (W:List V2):List AO:=[.row 0 4 (Xo (qC e)),.row 0 1 (Xo [.sl 0 0 (fun _=>.any) false]),.row 0 1 (Xo [.bool false]),.row 0 1 (Xo [.osl 4 W.length 8 0 W.length]),.row W.length (W.length*8) (Xs vC 8 v0 W)]
theorem PC (e:Rat) (W:List V2):Yh e W=[.row 0 4 (Xo (qC e)),.row 0 1 (Xo [.sl 0 0 (fun _=>.any) false]),.row 0 1 (Xo [.bool false]),.row 0 1 (Xo [.osl 4 W.length 8 0 W.length]),.row W.length (W.length*8) (Xs vC 8 v0 W)]:=nrfl rfl
theorem Vq (e:Rat) (W:List V2):Pn 5 (Yh e W):=by
 have hvc:∀ a:V2,∀ x∈vC a,Settled x:=fun a=>by simp [vC,X7,X3]
 refine ⟨rfl,fun o ho=>?_⟩
 simp only [Yh,List.mem_cons,List.not_mem_nil,or_false] at ho
 rcases ho with rfl | rfl | rfl | rfl | rfl
 ·exact ⟨by simp [qC,Xv],by simp,by simp⟩
 ·exact ⟨by simp [Xv],by simp,by simp⟩
 ·exact ⟨by simp [Xv],by simp,by simp⟩
 ·exact ⟨by simp [Xv],by simp,by simp⟩
 ·exact ⟨fun j _=>X6 (Xc (hvc _) _),by simp,by simp⟩
theorem TL {A B:List (List V2)} {e:Rat} (h:I3 A B e=false):∃ i k,i<A.length∧k<B.length∧Zo A B e i k=false∧∀ j l,(j<i∨j=i∧l<k)→l<B.length→Zo A B e j l=true:=by
 have h1:¬ ∀ i,i<A.length→IL A B e i=true:=fun H=>by
  have:I3 A B e=true:=decide_eq_true H
  rw [h] at this; cases this
 have h2:∃ i,i<A.length∧IL A B e i=false:=by
  apply Classical.byContradiction
  intro H
  refine h1 fun i hi=>?_
  cases hp:IL A B e i with
  | true=>rfl
  | false=>exact absurd ⟨i,hi,hp⟩ H
 obtain ⟨i',hi'⟩:=h2
 obtain ⟨i,⟨hi,hp⟩,hmin⟩:=p9 (p:=fun i=>i<A.length∧IL A B e i=false) i' hi'
 have h4:∃ k,k<B.length∧Zo A B e i k=false:=by
  apply Classical.byContradiction
  intro H
  have:IL A B e i=true:=decide_eq_true fun k hk=>by
   cases hq:Zo A B e i k with
   | true=>rfl
   | false=>exact absurd ⟨k,hk,hq⟩ H
  rw [hp] at this; cases this
 obtain ⟨k',hk'⟩:=h4
 obtain ⟨k,⟨hk,hq⟩,hmin2⟩:=p9 (p:=fun k=>k<B.length∧Zo A B e i k=false) k' hk'
 refine ⟨i,k,hi,hk,hq,fun j l hjl hl=>?_⟩
 cases hv:Zo A B e j l with
 | true=>rfl
 | false =>
  rcases hjl with hj | ⟨rfl,hlk⟩
  ·exact absurd ⟨by omega,Vp hl hv⟩ (hmin j hj)
  ·exact absurd ⟨hl,hv⟩ (hmin2 l hlk)
theorem kA (A B:List (List V2)) (e:Rat) (c:Nat) (ha:∀ i,i<A.length→Shp c (A.getD i [])) (hb:∀ i,i<B.length→Shp c (B.getD i [])) (h1:1≤c) (hc:c≤1000) (he:qb e≤10000) (la:A.length≤1000) (lb:B.length≤1000) :
  Fn Tryz.prog 201 [GT A,GT B,qA e] (.tup [.any,.bool (I3 A B e)]):=by
 have cp:=iH A B
 obtain ⟨R,hR⟩:∃ R,R=I3 A B e:=⟨_,rfl⟩
 rw [← hR]
 have s15:Settled (.fn 260 [ZG A,ZG B]):=Jm (by
  intro a ha
  simp only [List.mem_cons,List.not_mem_nil,or_false] at ha
  rcases ha with rfl | rfl <;> exact GE _)
 refine Fq Tryz.call201 Tryz.func201 13 [16,17] [] [] (by simp [K4,Xd]) (X0 1000 ?_)
 simp only [AS.start,XI,↓X2,wF,seval]
 refine X1 cp rfl ?_
 simp only [XI,↓X2,wF,seval]
 refine Run.sub (s':=⟨13,[16,17],[.any,.any,.any,.any,.any,.ref 0 0 0,.ref 1 0 0,.ref 2 0 0,.ref 3 0 0,.any,.any,.any,.any],[(15,.fn 260 [ZG A,ZG B])],GW e []⟩) ?_ ((Qr 3 1 (fun _=>.sl 0 0 (fun _=>.any) true) rfl (Nat.le_refl _) (fun j hj=>by have e:j=0:=Nat.lt_one_iff.1 hj; subst e; rfl)).trans ((BR 3 8 (Xs vC 8 v0 []) rfl 1 (Nat.le_refl _)).trans ((Qr 3 1 (Xo [.osl 4 0 8 0 0]) rfl (Nat.le_refl _) (fun j hj=>by have e:j=0:=Nat.lt_one_iff.1 hj; subst e; rfl)).trans (Xa rfl (by simp [Xh]) (by simp [Xi,Xz]) (by simp [GW,qC,X4])))))
 have hb1:∀ i k,i<A.length→k<B.length→i*B.length+k<1000*1000:=fun i k hi hk=>by
  have h2:i*B.length+B.length≤A.length*B.length:=by rw [← Nat.succ_mul]; exact Nat.mul_le_mul_right _ hi
  have h3:A.length*B.length≤1000*1000:=Nat.mul_le_mul la lb
  omega
 have hN:∃ N,(R=true∧N=A.length*B.length∧∀ i k,i<A.length→k<B.length→Zo A B e i k=true)∨(R=false∧∃ i0 k0,N=i0*B.length+k0∧i0<A.length∧k0<B.length∧Zo A B e i0 k0=false∧∀ j l,(j<i0∨j=i0∧l<k0)→l<B.length→Zo A B e j l=true):=by
  cases hq:I3 A B e with
  | true =>
   have h2:=of_decide_eq_true hq
   exact ⟨_,.inl ⟨hR.trans hq,rfl,fun i k hi hk=>of_decide_eq_true (h2 i hi) k hk⟩⟩
  | false =>
   obtain ⟨i0,k0,g1,g2,g3,g4⟩:=TL hq
   exact ⟨_,.inr ⟨hR.trans hq,i0,k0,rfl,g1,g2,g3,g4⟩⟩
 obtain ⟨N,hN⟩:=hN
 refine E9 R (gf:=260) (caps:=[ZG A,ZG B]) (Hn:=cond R (GW e (Dr A B e N)) (Yh e (Dr A B e N))) rfl rfl rfl (fun t ht=>?_) ?_
 ·have yT:∀ i k,i<A.length→k<B.length→Zo A B e i k=true→YCall Tryz.prog t [Xp (A.getD i []),Xp (B.getD k [])] (GW e (Dr A B e (i*B.length+k))) (.bool true) (GW e (Dr A B e (i*B.length+k+1))):=fun i k hi hk hp=>by
   have cf:=Pv (A.getD i []) (B.getD k []) e c (ha i hi) (hb k hk) h1 hc he
   rw [show (Zv (A.getD i []) (B.getD k []) e).2=true from hp] at cf
   have hd:=lV A B e i k hk
   have hlt:=hb1 i k hi hk
   have hs:=YW A B e (i*B.length+k)
   have hl:=fu A B e (i*B.length+k)
   rw [hs,hd]
   generalize Dr A B e (i*B.length+k)=W at *
   generalize (Zv (A.getD i []) (B.getD k []) e).1=d at *
   have hap:=XT vC 8 v0 W d (by omega)
   refine Em (str:=[]) (hcs:=[]) ht mixed (by kernel_rfl) (by kernel_rfl) rfl (fun p hp=>?_) (fun o ho=>((Om e _).2 o ho).1) (fun l r hr=>?_)
   ·have hp':p=16∨p=17:=by simpa using hp
    rcases hp' with rfl | rfl <;> exact Nat.le_of_ble_eq_true rfl
   show Run _ _ ⟨13,[16,17],[.any,.any,.any,.any,.any,.ref 0 0 0,.ref 1 0 0,.ref 2 0 0,.ref 3 0 0,.any,.any,.any,.any],[(17,Xp (B.getD k [])),(16,Xp (A.getD i [])),(15,.fn 260 [ZG A,ZG B])],GW e W⟩
   refine X0 1000 ?_
   simp only [IJ,↓X2,wF,seval]
   refine Fl hr ?_
   refine X0 1000 ?_
   simp only [↓X2,wF,seval]
   refine X1 cf rfl ?_
   simp only [↓X2,wF,seval]
   refine ⟨⟨Z7 _,by omega,by omega⟩,nH ?_⟩
   rw [List.length_append,List.length_singleton,← hap]
   rfl
  have hce:t.ce.H.length≤5:=by rw [ht.ch]; exact Nat.le_refl _
  rcases hN with ⟨rfl,rfl,hall⟩ | ⟨rfl,i0,k0,rfl,hi0,hk0,hno,hyes⟩
  ·exact UH A B t 5 (fun n=>GW e (Dr A B e n)) la lb (fun n=>Om _ _) hce fun i k hi hk=>yT i k hi hk (hall i k hi hk)
  ·refine aR A B t 5 (fun n=>GW e (Dr A B e n)) (Yh e (Dr A B e (i0*B.length+k0))) la lb (fun n=>Om _ _) hce i0 k0 hi0 hk0 (fun i k h hk=>yT i k (by omega) hk (hyes i k h hk)) ?_ (Vq _ _)
   have cf:=Pv (A.getD i0 []) (B.getD k0 []) e c (ha i0 hi0) (hb k0 hk0) h1 hc he
   rw [show (Zv (A.getD i0 []) (B.getD k0 []) e).2=false from hno] at cf
   generalize Dr A B e (i0*B.length+k0)=W at *
   generalize (Zv (A.getD i0 []) (B.getD k0 []) e).1=d at *
   refine Mo false (str:=[]) (hcs:=[]) ht mixed (by kernel_rfl) (by kernel_rfl) rfl (fun p hp=>?_) (fun o ho=>((Vq e _).2 o ho).1) (fun l r hr=>?_)
   ·have hp':p=16∨p=17:=by simpa using hp
    rcases hp' with rfl | rfl <;> exact Nat.le_of_ble_eq_true rfl
   show Run (Uj _ _ _ _ _ _ _ _) _ ⟨13,[16,17],[.any,.any,.any,.any,.any,.ref 0 0 0,.ref 1 0 0,.ref 2 0 0,.ref 3 0 0,.any,.any,.any,.any],[(17,Xp (B.getD k0 [])),(16,Xp (A.getD i0 [])),(15,.fn 260 [ZG A,ZG B])],GW e W⟩
   refine X0 1000 ?_
   simp only [IJ,PC,↓X2,wF,seval]
   refine Uk hr ?_
   refine X0 1000 ?_
   simp only [↓X2,wF,seval]
   refine X1 cf rfl ?_
   simp only [↓X2,wF,seval]
   exact uO rfl
 ·rcases hN with ⟨rfl,rfl,hall⟩ | ⟨rfl,i0,k0,rfl,hi0,hk0,hno,hyes⟩
  ·show Run _ _ ⟨13,[16,17],[.any,.any,.any,.any,.any,.ref 0 0 0,.ref 1 0 0,.ref 2 0 0,.ref 3 0 0,.any,.any,.any,.any],[(15,.fn 260 [ZG A,ZG B])],GW e (Dr A B e (A.length*B.length))⟩
   generalize Dr A B e (A.length*B.length)=W
   show Run _ (_ :: _) _
   refine X0 1000 ?_
   simp only [IJ,↓X2,wF,seval]
   exact Jn (x:=.osl 4 W.length 8 0 W.length) (y:=.bool true) rfl (by simp only [QU,↓X2,wF,seval]) (by simp only [QU,↓X2,wF,seval]) (Xu ZX (GO _)) ((X3 _).sees _)
  ·show Run _ _ ⟨13,[16,17],[.any,.any,.any,.any,.any,.ref 0 0 0,.ref 1 0 0,.ref 2 0 0,.ref 3 0 0,.any,.any,.any,.any],[(15,.fn 260 [ZG A,ZG B])],Yh e (Dr A B e (i0*B.length+k0))⟩
   generalize Dr A B e (i0*B.length+k0)=W
   show Run _ (_ :: _) _
   refine X0 1000 ?_
   simp only [PC,↓X2,wF,seval]
   exact Jn (x:=.sl 0 0 (fun _=>.any) false) (y:=.bool false) rfl (by simp only [QU,↓X2,wF,seval]) (by simp only [QU,↓X2,wF,seval]) (Xu ZX (GO _)) ((X3 _).sees _)
def vd:Go.Shelf.Ren:=⟨fun _=>290,fun t=>if t=23 then 3 else t,fun x=>x⟩
theorem tI:SlLaysE.n45 Tryz.prog vd where
 mixed:=mixed
 f45:=⟨Tryz.f290.name,rfl,Tryz.func290.trans (congrArg some rfl)⟩
 t0:=Tryz.underlying0
 a0:=Tryz.isAgg0
 z0:=Tryz.sizeOf0
 v0:=Tryz.zeroValue0
 t3:=Tryz.underlying3
 a3:=Tryz.isAgg3
 z3:=Tryz.sizeOf3
 v3:=Tryz.zeroValue3
 t4:=Tryz.underlying4
 a4:=Tryz.isAgg4
 z4:=Tryz.sizeOf4
 v4:=Tryz.zeroValue4
 t22:=Tryz.underlying22
 a22:=Tryz.isAgg22
 z22:=Tryz.sizeOf22
 v22:=Tryz.zeroValue22
 a23:=Tryz.isAgg3
 z23:=Tryz.sizeOf3
def MI (x:Int):Value:=.int .i64 x
theorem RA (w:World) (b:Nat) (d:Array Int) (cs:Array Value) (el:TypeId) (fr:Nat×Nat) (h:w.heap[b]?=some (.cells cs el fr)):(Go.Sort.putRow MI w b 0 d).heap[b]?=some (.cells (Go.Sort.putCells MI 0 d cs) el fr):=by
 show (w.heap.modify b _)[b]?=_
 rw [Array.getElem?_modify,if_pos rfl,h]
 rfl
theorem G9 (w:World) (b b':Nat) (d:Array Int) (h:b'≠b):(Go.Sort.putRow MI w b 0 d).heap[b']?=w.heap[b']?:=by
 show (w.heap.modify b _)[b']?=_
 rw [Array.getElem?_modify,if_neg (Ne.symm h)]
theorem N8 (o:AO) (R:List Int) (v i:Nat) (hi:i<R.length):HCall Tryz.prog 290 [.osl 1 v 1 0 R.length,I i,I ((i+1:Nat):Int)] [o,.row v R.length (Qa I 0 R)] (.osl 1 (v+1) 1 0 (R.length - 1)) [o,.row (v+1) (R.length - 1) (Qa I 0 (R.eraseIdx i))]:=by
 refine ⟨Tryz.call290,?_⟩
 rintro c vs hH hr ⟨hv1,hv2⟩
 have ho:c.H[1]?=some (.row v R.length (Qa I 0 R)):=by rw [hH]; rfl
 have hinf:inf c.H 1=some v:=by simp [inf,ho,AO.info]
 have live:¬ stale c.H 1 v:=by
  rintro (⟨v'',h1,hlt⟩ | hd)
  ·rw [hinf] at h1; cases h1; omega
  ·simp [inf,hd,AO.info] at hinf
 obtain ⟨l,hl⟩:∃ l,vs=l:=⟨_,rfl⟩
 have hx:=hv2 0 (by simp)
 have hy:=hv2 1 (by simp)
 have hz:=hv2 2 (by simp)
 have e3:vs=#[vs.getD 0 undef,vs.getD 1 undef,vs.getD 2 undef]:=by
  have h3:vs.size=3:=hv1
  apply Array.ext
  ·simp [h3]
  ·intro j h1 h2
   match j,h1 with
   | 0,_=>simp [Array.getD,h3]
   | 1,_=>simp [Array.getD,h3]
   | 2,_=>simp [Array.getD,h3]
   | j+3,h=>omega
 rw [e3]
 generalize vs.getD 0 undef=x at *
 generalize vs.getD 1 undef=y at *
 generalize vs.getD 2 undef=z at *
 replace hx:Rep c x (.osl 1 v 1 0 R.length):=hx
 replace hy:Rep c y (I i):=hy
 replace hz:Rep c z (I ((i+1:Nat):Int)):=hz
 cases hy
 cases hz
 generalize hn:R.length=n at hx
 cases hx with
 | oslz _ _ _ _ a h=>omega
 | oslOld _ _ _ _ _ a cap h hs=>exact absurd hs live
 | oslzOld _ _ _ _ a hs=>exact absurd hs live
 | osl _ _ _ _ _ cap b sz h1 hg hcn hcap hmx =>
  subst hn
  rcases hr.row 1 _ _ _ ho with ⟨hg',_⟩ | ⟨b',sz',cs,el,hg',hh,hcs,hks,hnS,hcr⟩
  ·rw [hg'] at hg; cases hg
  rw [hg'] at hg
  cases hg
  have hcell:∀ j,j<R.length→cs.getD j undef=MI (R.getD j 0):=fun j hj=>by
   have:=hcr j hj
   rw [show Qa I 0 R j=I (R.getD j 0) from rfl] at this
   generalize cs.getD j undef=q at this ⊢
   cases this; rfl
  have hget:∀ j,j<R.length→R.toArray[j]! = R.getD j 0:=fun j hj=>by
   rw [getElem!_pos R.toArray j (by simpa using hj)]
   simp [List.getD_eq_getElem?_getD,hj]
  have hold:Go.Sort.Holds MI c.w b 0 R.toArray:=fun j hj=>by
   have hj':j<R.length:=by simpa using hj
   refine ⟨?_,?_⟩
   ·rw [A7 hh (m:=R.length) (by omega) j hj',hcell j hj',hget j hj']
   ·unfold World.frozen?
    rw [hh]
    simp
  obtain ⟨_,i0,z0,hi0,hz1,_⟩:=Zt oY
  have key:=AnyE.slices_Delete tI MI (fun _=>rfl) 0 (fun w=>Tryz.zeroValue3 w) i0 hi0 hz1 b 0 cap i (i+1) R.toArray c.w hold (by simpa using hcn) hmx (by omega) (by rw [List.size_toArray]; omega)
  rw [List.size_toArray] at key
  refine key.mono ?_
  rintro e w' ⟨rfl,q,rfl⟩
  obtain ⟨d,hd⟩:∃ d,d=(R.toArray.toList.take i ++ R.toArray.toList.drop (i+1) ++ List.replicate (i+1 - i) (0:Int)).toArray:=⟨_,rfl⟩
  rw [← hd]
  have hds:d.size=R.length:=by rw [hd]; simp; omega
  have hdj:∀ j,j<R.length - 1→d[j]! = (R.eraseIdx i).getD j 0:=fun j hj=>by
   rw [getElem!_pos d j (by omega)]
   subst hd
   simp only [List.getElem_toArray,List.getD_eq_getElem?_getD,List.getElem?_eraseIdx]
   by_cases h:j<i
   ·rw [List.getElem_append_left (by simp; omega),List.getElem_append_left (by simp; omega)]
    simp [h,show j<R.length by omega]
   ·rw [List.getElem_append_left (by simp; omega),List.getElem_append_right (by simp; omega)]
    have e1:i+1+(j - min i R.length)=j+1:=by omega
    simp [h,e1,show j+1<R.length by omega]
  have hcs2:(Go.Sort.putCells MI 0 d cs).size=cs.size:=by simp [Go.Sort.putCells]
  have hset:(c.H.set 1 (.row (v+1) (R.length - 1) (Qa I 0 (R.eraseIdx i))))[1]?=some (.row (v+1) (R.length - 1) (Qa I 0 (R.eraseIdx i))):=by rw [hH]; rfl
  have hoth:∀ k,k≠1→(c.H.set 1 (.row (v+1) (R.length - 1) (Qa I 0 (R.eraseIdx i))))[k]?=c.H[k]?:=fun k hk=>by simp [Ne.symm hk]
  have hinf':inf (c.H.set 1 (.row (v+1) (R.length - 1) (Qa I 0 (R.eraseIdx i)))) 1=some (v+1):=by simp [inf,hset,AO.info]
  obtain ⟨g1,g2⟩:=Aj (c:=c) (c':=⟨Go.Sort.putRow MI (Go.Sort.ahead c.w q) b 0 d,c.S,c.γ,c.H.set 1 (.row (v+1) (R.length - 1) (Qa I 0 (R.eraseIdx i)))⟩) hr
   (id:=1) (ver:=v+1) (n:=R.length - 1) (b:=b) (sz:=sz) hset hoth rfl hg' (fun _ _=>rfl) (RA (Go.Sort.ahead c.w q) b d cs el (0,0) hh) (hcs2.trans hcs) (by omega)
   (fun b' hb' _=>G9 (Go.Sort.ahead c.w q) b b' d hb') (by simp) rfl rfl rfl (.inr ⟨_,_,ho,rfl,hg'⟩) (.inr (.inr ⟨v,hinf,.inl (by omega)⟩)) (fun j hj=>by
    have e1:(Go.Sort.putCells MI 0 d cs).getD j undef=MI d[j]!:=by
     have h1:j<cs.size:=by omega
     have h2:j<d.size:=by omega
     simp [Go.Sort.putCells,Array.getD_eq_getD_getElem?,h1,h2]
    rw [e1,hdj j hj]
    exact .int _ _)
  rw [hH] at hinf' g1 g2
  rw [show R.length - (i+1 - i)=R.length - 1 by omega]
  exact ⟨_,_,_,rfl,.osl 1 (v+1) 1 0 (R.length - 1) cap b sz hinf' hg' (by omega) hcap hmx,g1,g2⟩
def zs (R:List Nat):List Int:=R.map fun n:Nat=>(n:Int)
theorem Xn (R:List Nat):(zs R).length=R.length:=by unfold zs; rw [List.length_map]
theorem Bg (R:List Nat) (j:Nat):(zs R).getD j 0=((R.getD j 0:Nat):Int):=by
 unfold zs
 rw [List.getD_eq_getElem?_getD,List.getElem?_map,List.getD_eq_getElem?_getD]
 cases R[j]? <;> rfl
theorem Tn (R:List Nat) (i:Nat):(zs R).eraseIdx i=zs (R.eraseIdx i):=by
 unfold zs
 apply List.ext_getElem?
 intro j
 simp only [List.getElem?_eraseIdx,List.getElem?_map]
 split <;> rfl
def kf (L:List V2) (R:List Nat):AV:=.ptr 2 (Xo [Xp L,X8 (zs R)]) 0
theorem Q6 (L:List V2) (R:List Nat):kf L R=.ptr 2 (Xo [Xp L,X8 (zs R)]) 0:=nrfl rfl
theorem AY (L:List V2) (R:List Nat):Settled (kf L R):=J2 fun j hj=>by
 match j,hj with
 | 0,_=>exact Xf L
 | 1,_=>exact X7 _
 | j+2,h=>omega
def rQ (L:List V2) (R:List Nat):AV:=.ptr 1 (Xo [kf L R]) 0
theorem P4 (L:List V2) (R:List Nat):rQ L R=.ptr 1 (Xo [kf L R]) 0:=nrfl rfl
theorem Ea (L:List V2) (R:List Nat):Settled (rQ L R):=J2 fun j hj=>by
 obtain rfl:j=0:=by omega
 exact AY L R
def nr (R:List Nat) (m:Nat):Nat:=R.getD (m % R.length) 0
theorem pE (R:List Nat) (m:Nat):(zs R).getD (m % R.length) 0=((nr R m:Nat):Int):=Bg R _
structure Rok (L:List V2) (R:List Nat):Prop where
 pos:0<R.length
 len:R.length<1000000
 mem:∀ j,R.getD j 0<L.length
 lenL:L.length<1000000
theorem IU (L:List V2) (R:List Nat) (k:Int) (m:Nat) (h:Rok L R) (hk:k+R.length=m) (hm:m<10000000) (h1:-10≤k) (h2:k<10000000):Fn Tryz.prog 295 [I k,rQ L R] (I (nr R m)):=by
 obtain ⟨h0,hn,hmem,hL⟩:=h
 refine Fq Tryz.call295 Tryz.func295 4 [] [] [] (by simp [Ea,X9]) (X0 1000 ?_)
 have w1:IntKind.i64.wrap (k+R.length)=(m:Int):=by rw [IntKind.wrap_i64]; omega
 have hmod:(m:Int).tmod R.length=((m % R.length:Nat):Int):=rfl
 have hlt:m % R.length<R.length:=Nat.mod_lt _ h0
 have f1:(((m % R.length:Nat):Int)<R.length)=True:=eq_true (by omega)
 have f2:(m % R.length<R.length)=True:=eq_true hlt
 have f3:(m % R.length+1≤R.length)=True:=eq_true (by omega)
 have f6:((R.length:Int)=0)=False:=eq_false (by omega)
 have f6':(R.length=0)=False:=eq_false (by omega)
 have w2:IntKind.i64.wrap (((m % R.length:Nat):Int))=((m % R.length:Nat):Int):=by rw [IntKind.wrap_i64]; omega
 have v1:=pE R m
 simp only [AS.start,P4,Q6,X4,Xn,w1,w2,hmod,f1,f2,f3,f6,f6',v1,Int.toNat_natCast,↓X2,wF,seval]
 exact Xt rfl rfl (X9 _) rfl
theorem GZ (L:List V2) (R:List Nat) (p:Nat) (h:Rok L R) (hp:p<1000000):Fn Tryz.prog 289 [kf L R,I p] (.tup [I (nr R (p+R.length - 1)),I (nr R (p+R.length+1))]):=by
 have c1:=IU L R ((p:Int) - 1) (p+R.length - 1) h (by have:=h.pos; omega) (by have:=h.len; omega) (by omega) (by omega)
 have c2:=IU L R ((p:Int)+1) (p+R.length+1) h (by omega) (by have:=h.len; omega) (by omega) (by omega)
 have w1:IntKind.i64.wrap ((p:Int) - 1)=(p:Int) - 1:=by rw [IntKind.wrap_i64]; omega
 have w2:IntKind.i64.wrap ((p:Int)+1)=(p:Int)+1:=by rw [IntKind.wrap_i64]; omega
 have hl:SeesL [.row 0 1 (Xo [.ptr 2 (Xo [Xp L,X8 (zs R)]) 0])] ([.ref 0 0 0]:List AV) [rQ L R]:=⟨Z2 (.inl rfl) (by omega) (fun j hj=>by
  obtain rfl:j=0:=by omega
  exact (AY L R).sees _),trivial⟩
 refine Fq Tryz.call289 Tryz.func289 7 [] [] [] (by simp [AY,X9]) (X0 1000 ?_)
 simp only [AS.start,Q6,w1,w2,↓X2,wF,seval]
 refine JI c1 rfl ⟨QL (X9 _) rfl,hl⟩ (Cu _ _) ?_
 simp only [w1,w2,↓X2,wF,seval]
 refine JI c2 rfl ⟨QL (X9 _) rfl,hl⟩ (Cu _ _) ?_
 simp only [w1,w2,↓X2,wF,seval]
 exact SC rfl rfl rfl (X9 _) (X9 _) rfl rfl
def Hp (L:List V2) (R:List Nat) (p:Nat):Int:=Jg (L.getD (nr R (p+R.length - 1)) v0) (L.getD (R.getD p 0) v0) (L.getD (nr R (p+R.length+1)) v0)
theorem Wq (L:List V2) (R:List Nat) (p k:Nat) (h:Rok L R) (hp:p<R.length) (hs:Q3 L k) (hk:k≤10000):Fn Tryz.prog 288 [kf L R,I p] (I (Hp L R p)):=by
 have c1:=GZ L R p h (by have:=h.len; omega)
 have c2:=ZA (L.getD (nr R (p+R.length - 1)) v0) (L.getD (R.getD p 0) v0) (L.getD (nr R (p+R.length+1)) v0) (by have:=hs (nr R (p+R.length - 1)); unfold vs; omega) (by have:=hs (R.getD p 0); unfold vs; omega) (by have:=hs (nr R (p+R.length+1)); unfold vs; omega)
 obtain ⟨h0,hn,hmem,hL⟩:=h
 have m1:=hmem ((p+R.length - 1) % R.length)
 have m2:=hmem ((p+R.length+1) % R.length)
 have m3:=hmem p
 change nr R (p+R.length - 1)<L.length at m1
 change nr R (p+R.length+1)<L.length at m2
 unfold Hp
 generalize nr R (p+R.length - 1)=a at *
 generalize nr R (p+R.length+1)=c at *
 have v2:=Bg R p
 generalize R.getD p 0=b at *
 have f1:((p:Int)<R.length)=True:=eq_true (by omega)
 have f2:(p<R.length)=True:=eq_true hp
 have f3:(p+1≤R.length)=True:=eq_true (by omega)
 have a1:((a:Int)<L.length)=True:=eq_true (by omega)
 have a2:(a<L.length)=True:=eq_true m1
 have a3:(a*8+8≤L.length*8)=True:=eq_true (by omega)
 have b1:((b:Int)<L.length)=True:=eq_true (by omega)
 have b2:(b<L.length)=True:=eq_true m3
 have b3:(b*8+8≤L.length*8)=True:=eq_true (by omega)
 have e1:((c:Int)<L.length)=True:=eq_true (by omega)
 have e2:(c<L.length)=True:=eq_true m2
 have e3:(c*8+8≤L.length*8)=True:=eq_true (by omega)
 have va:=vF L a
 have vb:=vF L b
 have vc:=vF L c
 refine Fq Tryz.call288 Tryz.func288 7 [] [] [] (by simp [AY,X9]) (X0 1000 ?_)
 simp only [AS.start,Q6,X5,X4,↓X2,wF,seval]
 refine X1 c1 rfl ?_
 simp only [Q6,X5,X4,Xn,f1,f2,f3,a1,a2,a3,b1,b2,b3,e1,e2,e3,va,vb,vc,v2,Int.toNat_natCast,↓X2,wF,seval]
 refine X1 c2 rfl ?_
 simp only [↓X2,wF,seval]
 exact Xt rfl rfl (X9 _) rfl
theorem gR (s:List Int) (v:Int) (hl:s.length<1048576):Fn Tryz.prog 297 [X8 s,I v] (I (I5 (fun x=>decide (v=x)) s)):=by
 refine Fq Tryz.call297 Tryz.func297 6 [6,7,8] [] [] (by simp [X7,X9]) (X0 1000 ?_)
 simp only [AS.start,X4,↓X2,wF,seval]
 refine Xg (fun j:Nat=>⟨6,[6,7,8],[X8 s,I v,.any,.any,.any,.any],[(6,X8 s),(7,I s.length),(8,I j)],[]⟩) (fun j=>j≤s.length∧∀ i,i<j→(fun x=>decide (v=x)) (s.getD i 0)=false) (fun j=>s.length - j) 0 ⟨by omega,by omega⟩
  (Xa rfl (by simp [Xh,X4,I]) (by simp [Xi,Xz,X4,I]) rfl) ?_
 rintro j ⟨hj,hno⟩ next
 have w1:=wj j (by omega)
 refine X0 1000 ?_
 simp only [X4,w1,↓X2,wF,seval]
 refine ⟨fun h=>⟨h,h,?_⟩,fun h=>Xt (v:=I (-1)) rfl rfl (X9 _) ?_⟩
 ·refine ⟨fun ht=>Xt (v:=I j) rfl rfl (X9 _) ?_,fun hf=>next (j+1) _ ⟨by omega,fun i hi=>?_⟩ (by omega) (Xa rfl ?_ ?_ rfl)⟩
  ·rw [Ga h (decide_eq_true ht) hno]
  ·by_cases e:i=j
   ·rw [e]; exact decide_eq_false hf
   ·exact hno i (by omega)
  ·simp [Xh,X4,I]
  ·simp [Xi,Xz,X4,I]
 ·rw [Hb fun i hi=>hno i (by omega)]
def UJ (R:List Nat) (x:Int):Nat:=(I5 (fun y=>decide (x=y)) (zs R)).toNat
theorem OR {R:List Nat} (hd:R.Nodup) {p:Nat} (hp:p<R.length):I5 (fun y=>decide (((R.getD p 0:Nat):Int)=y)) (zs R)=p:=by
 have at_:∀ i (hi:i<R.length),R.getD i 0=R[i]:=fun i hi=>by rw [List.getD_eq_getElem?_getD,List.getElem?_eq_getElem hi]; rfl
 refine Ga (by rw [Xn]; exact hp) (by rw [Bg]; simp) fun i hi=>?_
 rw [Bg]
 refine decide_eq_false fun e=>?_
 rw [at_ i (by omega),at_ p hp] at e
 have e2:R[p]=R[i]:=by omega
 have:=(List.getElem_inj (i:=p) (j:=i) (h₀:=hp) (h₁:=by omega) hd).1 e2
 omega
theorem YM (L:List V2) (R:List Nat) (x:Int) (k:Nat) (h:Rok L R) (hd:R.Nodup) (hx:x∈zs R) (hs:Q3 L k) (hk:k≤10000):Fn Tryz.prog 296 [I x,rQ L R] (.bool (decide (Hp L R (UJ R x)=0))):=by
 obtain ⟨p,hp,rfl⟩:∃ p,p<R.length∧((R.getD p 0:Nat):Int)=x:=by
  obtain ⟨i,hi,rfl⟩:=List.getElem_of_mem hx
  refine ⟨i,by rw [Xn] at hi; exact hi,?_⟩
  rw [← Bg,List.getD_eq_getElem?_getD,List.getElem?_eq_getElem hi]; rfl
 have c1:=gR (zs R) ((R.getD p 0:Nat):Int) (by rw [Xn]; have:=h.len; omega)
 have e:UJ R ((R.getD p 0:Nat):Int)=p:=by unfold UJ; rw [OR hd hp]; rfl
 rw [OR hd hp] at c1
 rw [e]
 have c2:=Wq L R p k h hp hs hk
 refine Fq Tryz.call296 Tryz.func296 4 [] [] [] (by simp [Ea,X9]) (X0 1000 ?_)
 simp only [AS.start,P4,Q6,X4,Xn,↓X2,wF,seval]
 refine X1 c1 (by simp only [X4,Xn]; rfl) ?_
 simp only [P4,Q6,X4,Xn,↓X2,wF,seval]
 refine X1 c2 (by simp only [Q6,X4,Xn]; rfl) ?_
 simp only [↓X2,wF,seval]
 exact Xt rfl rfl (X3 _) rfl
def KP (L:List V2) (R:List Nat):Nat:=(List.range R.length).findIdx fun p=>decide (Hp L R p=0)
theorem Lk (L:List V2) (R:List Nat):KP L R≤R.length:=by
 have:=List.findIdx_le_length (xs:=List.range R.length) (p:=fun p=>decide (Hp L R p=0))
 rw [List.length_range] at this
 exact this
theorem Nh {L:List V2} {R:List Nat} (h:KP L R<R.length):Hp L R (KP L R)=0:=by
 have:=List.findIdx_getElem (xs:=List.range R.length) (p:=fun p=>decide (Hp L R p=0)) (w:=by rw [List.length_range]; exact h)
 rw [List.getElem_range] at this
 exact of_decide_eq_true this
theorem Ll {L:List V2} {R:List Nat} {p:Nat} (h:p<KP L R):Hp L R p≠0:=by
 have h2:=Lk L R
 have:=List.not_of_lt_findIdx (xs:=List.range R.length) (p:=fun p=>decide (Hp L R p=0)) (i:=p) h
 rw [List.getElem_range] at this
 exact of_decide_eq_false this
def Z9 (L:List V2):Nat→List Nat→List Nat
 | 0,R=>R
 | f+1,R=>if 3<R.length∧KP L R<R.length then Z9 L f (R.eraseIdx (KP L R)) else R
theorem lH {L:List V2} {R:List Nat} (hd:R.Nodup):I5 (fun x=>decide (Hp L R (UJ R x)=0)) (zs R)=if KP L R<R.length then ((KP L R:Nat):Int) else -1:=by
 have at_:∀ p,p<R.length→UJ R ((zs R).getD p 0)=p:=fun p hp=>by unfold UJ; rw [Bg,OR hd hp]; rfl
 split
 ·rename_i h
  refine Ga (by rw [Xn]; exact h) ?_ fun i hi=>?_
  ·rw [at_ _ h]; exact decide_eq_true (Nh h)
  ·rw [at_ _ (by omega)]; exact decide_eq_false (Ll hi)
 ·rename_i h
  refine Hb fun i hi=>?_
  rw [Xn] at hi
  have:=Lk L R
  rw [at_ _ hi]; exact decide_eq_false (Ll (by omega))
def LV (L:List V2) (N:Nat) (R:List Nat):List AO:=[.row 0 2 (Xo [Xp L,.osl 1 (N - R.length) 1 0 R.length]),.row (N - R.length) R.length (Qa I 0 (zs R))]
theorem Ji (L:List V2) (N:Nat) (R:List Nat):LV L N R=[.row 0 2 (Xo [Xp L,.osl 1 (N - R.length) 1 0 R.length]),.row (N - R.length) R.length (Qa I 0 (zs R))]:=nrfl rfl
theorem KB (L:List V2) (N:Nat) (R:List Nat):Pn 2 (LV L N R):=by
 refine ⟨rfl,fun o ho=>?_⟩
 have bL:JJ 2 (Xp L)=True:=eq_true (X6 (Xf L))
 simp only [LV,List.mem_cons,List.not_mem_nil,or_false] at ho
 rcases ho with rfl | rfl
 ·exact ⟨by simp [Xv,bL],by simp,by simp⟩
 ·exact ⟨fun j _=>X6 (X9 _),by simp,by simp⟩
theorem IA {L:List V2} {N:Nat} {R:List Nat} {rest:List AO}:JH (LV L N R ++ rest) (.ref 0 0 0) (kf L R):=Z2 (.inl rfl) (by omega) fun j hj=>by
 match j,hj with
 | 0,_=>exact (Xf L).sees _
 | 1,_ =>
  show JH _ (.osl 1 (N - R.length) 1 0 R.length) (X8 (zs R))
  have:=EN (l:=zs R) (H:=LV L N R ++ rest) (id:=1) (ver:=N - R.length) (n:=R.length) rfl (by rw [Xn]; exact Nat.le_refl _)
  rw [Xn] at this
  exact this
 | j+2,h=>omega
theorem SM {L:List V2} {N:Nat} {R:List Nat} {rest:List AO}:JH (LV L N R ++ rest) (.osl 1 (N - R.length) 1 0 R.length) (X8 (zs R)):=by
 have:=EN (l:=zs R) (H:=LV L N R ++ rest) (id:=1) (ver:=N - R.length) (n:=R.length) rfl (by rw [Xn]; exact Nat.le_refl _)
 rw [Xn] at this
 exact this
theorem tZ {P:Program} {fn:Func} {str hcs:List Nat} {m:Nat} {H:List AO} {s:AS} (hr:fn.results=#[]) (hH:s.h.take m=H):RetOk (MJ P fn str hcs m (.tup []) H) s :=
 ⟨.tup [],by show Z0 P fn s=_; simp [Z0,hr,J8,A9],rfl,hH⟩
theorem rN {P:Program} {fn:Func} {str hcs:List Nat} {m:Nat} {H:List AO} {s:AS} (hr:fn.results=#[]) (hH:s.h.take m=H):RetE (MJ P fn str hcs m (.tup []) H) s :=
 ⟨.tup [],by show Z0 P fn s=_; simp [Z0,hr,J8,A9],rfl,hH⟩
theorem Bu {L:List V2} {R:List Nat} {q:Nat} (h:Rok L R) (h3:3<R.length) (hq:q<R.length):Rok L (R.eraseIdx q):=by
 obtain ⟨h0,hn,hmem,hL⟩:=h
 have hlen:(R.eraseIdx q).length=R.length - 1:=by rw [List.length_eraseIdx,if_pos hq]
 refine ⟨by omega,by omega,fun j=>?_,hL⟩
 rw [List.getD_eq_getElem?_getD,List.getElem?_eraseIdx]
 split
 ·rw [← List.getD_eq_getElem?_getD]; exact hmem j
 ·rw [← List.getD_eq_getElem?_getD]; exact hmem (j+1)
theorem eX (L:List V2) (N:Nat) (R0:List Nat) (k:Nat) (h:Rok L R0) (hd:R0.Nodup) (hN:R0.length≤N) (hs:Q3 L k) (hk:k≤10000):HCall Tryz.prog 291 [.ref 0 0 0] (LV L N R0) (.tup []) (LV L N (Z9 L R0.length R0)):=by
 have bL:JJ 3 (Xp L)=True:=eq_true (X6 (Xf L))
 refine HCall.introC (fn:=Tryz.f291) Tryz.call291 Tryz.func291 rfl mixed 3 [] [4,50000001,5004] [4] (by kernel_rfl) (Nat.le_of_ble_eq_true rfl) (X6 (SV (by simp))) (fun o ho=>((KB _ _ _).2 o ho).1) (X0 1000 ?_)
 simp only [AS.start,Ji,↓X2,wF,seval]
 refine Xg (fun R:List Nat=>⟨3,[],[.any,.ref 2 0 0,.any],[],LV L N R ++ [.con 0 1 (Xo [.ref 0 0 0])]⟩) (fun R=>Rok L R∧R.Nodup∧R.length≤N∧Z9 L R.length R=Z9 L R0.length R0) (fun R=>R.length) R0 ⟨h,hd,hN,rfl⟩
  (Sub.trans (XR 2 rfl) (Xa rfl (by simp [Xh]) (by simp [Xi]) (by simp [LV]))) ?_
 rintro R ⟨hR,hdR,hNR,hcl⟩ next
 have hR':=hR
 obtain ⟨h0,hn,hmem,hL⟩:=hR'
 by_cases h3:3<R.length
 rotate_left
 ·have e:Z9 L R.length R=R:=by
   cases hl:R.length with
   | zero=>rfl
   | succ n=>unfold Z9; rw [if_neg (by omega)]
  rw [e] at hcl
  have f1:((3:Int)<R.length)=False:=eq_false (by omega)
  refine X0 1000 ?_
  simp only [Ji,List.cons_append,List.nil_append,f1,↓X2,wF,seval]
  rw [← hcl]
  exact rN rfl rfl
 have f1:((3:Int)<R.length)=True:=eq_true (by omega)
 have ci:=Nr (zs R) 296 [rQ L R] (fun x=>decide (Hp L R (UJ R x)=0)) (by rw [Xn]; omega) (fun a ha=>by rw [List.mem_singleton.1 ha]; exact Ea L R) (fun x hx=>YM L R x k hR hdR hx hs hk)
 rw [lH hdR] at ci
 have sB:JH (LV L N R ++ [.con 0 1 (Xo [.ref 0 0 0])]) (.ref 2 0 0) (rQ L R):=Z2 (.inr rfl) (by omega) fun j hj=>by
  obtain rfl:j=0:=by omega
  exact IA
 by_cases hq:KP L R<R.length
 rotate_left
 ·have e:Z9 L R.length R=R:=by
   cases hl:R.length with
   | zero=>rfl
   | succ n=>unfold Z9; rw [if_neg (by omega)]
  rw [e] at hcl
  rw [if_neg hq] at ci
  refine X0 1000 ?_
  simp only [Ji,List.cons_append,List.nil_append,f1,↓X2,wF,seval]
  refine JI ci rfl ⟨SM,Ca ⟨sB,trivial⟩,trivial⟩ (Cu _ _) ?_
  simp only [show ((-1:Int)<0)=True from eq_true (by omega),↓X2,wF,seval]
  rw [← hcl]
  exact tZ rfl rfl
 rw [if_pos hq] at ci
 have hlq:∀ q,q<R.length→(R.eraseIdx q).length=R.length - 1:=fun q hq=>by rw [List.length_eraseIdx,if_pos hq]
 have ecl:Z9 L R.length R=Z9 L (R.eraseIdx (KP L R)).length (R.eraseIdx (KP L R)):=by
  rw [hlq _ hq]
  cases hl:R.length with
  | zero=>omega
  | succ n =>
   show (if 3<R.length∧KP L R<R.length then Z9 L n (R.eraseIdx (KP L R)) else R)=_
   rw [if_pos ⟨h3,hq⟩]; rfl
 rw [ecl] at hcl
 generalize KP L R=q at *
 have hl:=hlq q hq
 have f2:((q:Int)<0)=False:=eq_false (by omega)
 have w1:=wj q (by omega)
 have cd:=N8 (.row 0 2 (Xo [Xp L,.osl 1 (N - R.length) 1 0 R.length])) (zs R) (N - R.length) q (by rw [Xn]; exact hq)
 rw [Xn,Tn] at cd
 refine X0 1000 ?_
 simp only [Ji,List.cons_append,List.nil_append,f1,↓X2,wF,seval]
 refine JI ci rfl ⟨SM,Ca ⟨sB,trivial⟩,trivial⟩ (Cu _ _) ?_
 simp only [w1,f2,↓X2,wF,seval]
 have o2:∀ o∈[AO.row 0 2 (Xo [Xp L,.osl 1 (N - R.length) 1 0 R.length]),.row (N - R.length+1) (R.length - 1) (Qa I 0 (zs (R.eraseIdx q)))],o≠.unborn∧∀ v n f,o≠.con v n f:=fun o ho=>by
  simp only [List.mem_cons,List.not_mem_nil,or_false] at ho
  rcases ho with rfl | rfl <;> exact ⟨by simp,by simp⟩
 have bA:∀ a∈[AV.osl 1 (N - R.length) 1 0 R.length,I q,I ((q+1:Nat):Int)],JJ 2 a:=fun a ha=>by
  simp only [List.mem_cons,List.not_mem_nil,or_false] at ha
  rcases ha with rfl | rfl | rfl
  ·exact Ig (by omega)
  ·exact X6 (X9 _)
  ·exact X6 (X9 _)
 refine CK (H1:=LV L N R) (H1':=[AO.row 0 2 (Xo [Xp L,.osl 1 (N - R.length) 1 0 R.length]),.row (N - R.length+1) (R.length - 1) (Qa I 0 (zs (R.eraseIdx q)))]) (rest:=[.con 0 1 (Xo [.ref 0 0 0])]) rfl cd rfl rfl bA (fun o ho=>((KB L N R).2 o ho).1) (fun o ho=>((KB L N R).2 o ho).2.1) (fun o ho=>(o2 o ho).1) (QZ (fun o ho=>((KB L N R).2 o ho).2.2) (fun o ho=>(o2 o ho).2)) (Q0 _) ?_
 simp only [List.cons_append,List.nil_append,↓X2,wF,seval]
 exact next (R.eraseIdx q) _ ⟨Bu hR h3 hq,hdR.eraseIdx q,by omega,hcl⟩ (by omega) (Xa rfl (by simp [Xh]) (by simp [Xi]) (by rw [Ji,hl,show N - (R.length - 1)=N - R.length+1 by omega]; rfl))
def cM (a b c p:V2):Prop:=0≤Jg a b p∧0≤Jg b c p∧0≤Jg c a p
def AM (L:List V2) (a b c k:Nat):Prop:=k=a∨k=c∨k=b∨¬ cM (L.getD a v0) (L.getD b v0) (L.getD c v0) (L.getD k v0)
def B6 (L:List V2) (R:List Nat) (p:Nat):Bool:=decide (0<Hp L R p∧∀ j,j<R.length→AM L (nr R (p+R.length - 1)) (R.getD p 0) (nr R (p+R.length+1)) (R.getD j 0))
def Ia (A B C:V2):AV:=.sl 3 24 (Xo [.bool (decide (A.x.num<0)),X8 (Xb A.x.num.natAbs),.bool false,X8 (Xb (qd A.x)),.bool (decide (A.y.num<0)),X8 (Xb A.y.num.natAbs),.bool false,X8 (Xb (qd A.y)),.bool (decide (B.x.num<0)),X8 (Xb B.x.num.natAbs),.bool false,X8 (Xb (qd B.x)),.bool (decide (B.y.num<0)),X8 (Xb B.y.num.natAbs),.bool false,X8 (Xb (qd B.y)),.bool (decide (C.x.num<0)),X8 (Xb C.x.num.natAbs),.bool false,X8 (Xb (qd C.x)),.bool (decide (C.y.num<0)),X8 (Xb C.y.num.natAbs),.bool false,X8 (Xb (qd C.y))]) true
theorem XY (A B C:V2):Ia A B C=.sl 3 24 (Xo [.bool (decide (A.x.num<0)),X8 (Xb A.x.num.natAbs),.bool false,X8 (Xb (qd A.x)),.bool (decide (A.y.num<0)),X8 (Xb A.y.num.natAbs),.bool false,X8 (Xb (qd A.y)),.bool (decide (B.x.num<0)),X8 (Xb B.x.num.natAbs),.bool false,X8 (Xb (qd B.x)),.bool (decide (B.y.num<0)),X8 (Xb B.y.num.natAbs),.bool false,X8 (Xb (qd B.y)),.bool (decide (C.x.num<0)),X8 (Xb C.x.num.natAbs),.bool false,X8 (Xb (qd C.x)),.bool (decide (C.y.num<0)),X8 (Xb C.y.num.natAbs),.bool false,X8 (Xb (qd C.y))]) true:=nrfl rfl
theorem qL (L:List V2) (R:List Nat) (p k:Nat) (h:Rok L R) (hp:p<R.length) (hs:Q3 L k) (hk:k≤10000):Fn Tryz.prog 274 [kf L R,I p] (.bool (B6 L R p)):=by
 have c1:=Wq L R p k h hp hs hk
 have c2:=GZ L R p h (by have:=h.len; omega)
 obtain ⟨h0,hn,hmem,hL⟩:=h
 have m1:=hmem ((p+R.length - 1) % R.length)
 have m2:=hmem ((p+R.length+1) % R.length)
 have m3:=hmem p
 change nr R (p+R.length - 1)<L.length at m1
 change nr R (p+R.length+1)<L.length at m2
 have hear:B6 L R p=decide (0<Hp L R p∧∀ j,j<R.length→AM L (nr R (p+R.length - 1)) (R.getD p 0) (nr R (p+R.length+1)) (R.getD j 0)):=rfl
 generalize B6 L R p=E at *
 generalize Hp L R p=S at *
 generalize nr R (p+R.length - 1)=a at *
 generalize nr R (p+R.length+1)=c at *
 have v2:=Bg R p
 generalize R.getD p 0=b at *
 have f1:((p:Int)<R.length)=True:=eq_true (by omega)
 have f2:(p<R.length)=True:=eq_true hp
 have f3:(p+1≤R.length)=True:=eq_true (by omega)
 have a1:((a:Int)<L.length)=True:=eq_true (by omega)
 have a2:(a<L.length)=True:=eq_true m1
 have a3:(a*8+8≤L.length*8)=True:=eq_true (by omega)
 have b1:((b:Int)<L.length)=True:=eq_true (by omega)
 have b2:(b<L.length)=True:=eq_true m3
 have b3:(b*8+8≤L.length*8)=True:=eq_true (by omega)
 have e1:((c:Int)<L.length)=True:=eq_true (by omega)
 have e2:(c<L.length)=True:=eq_true m2
 have e3:(c*8+8≤L.length*8)=True:=eq_true (by omega)
 have va:=vF L a
 have vb:=vF L b
 have vc:=vF L c
 refine Fq Tryz.call274 Tryz.func274 11 [52,53,54,77,78,79] [] [] (by simp [AY,X9]) (X0 1000 ?_)
 simp only [AS.start,Q6,X5,X4,↓X2,wA,↓reduceIte,reduceIte,reduceCtorEq,Y1,Y2,Y3,Y4,Y5,Y6,Y7,Y8,Y9,YA,wE]
 refine X1 c1 rfl ?_
 by_cases hS:S≤0
 ·have g1:(S≤0)=True:=eq_true hS
  have hE:E=false:=by rw [hear]; exact decide_eq_false fun hh=>by omega
  simp only [Q6,X5,X4,g1,↓X2,wA,↓reduceIte,reduceIte,reduceCtorEq,Y1,Y2,Y3,Y4,Y5,Y6,Y7,Y8,Y9,YA,wE]
  exact Xt (v:=.bool false) rfl rfl (X3 _) (by rw [hE])
 have g1:(S≤0)=False:=eq_false hS
 simp only [Q6,X5,X4,g1,↓X2,wA,↓reduceIte,reduceIte,reduceCtorEq,Y1,Y2,Y3,Y4,Y5,Y6,Y7,Y8,Y9,YA,wE]
 refine X1 c2 rfl ?_
 simp only [Q6,X5,X4,Xn,f1,f2,f3,a1,a2,a3,b1,b2,b3,e1,e2,e3,va,vb,vc,v2,Int.toNat_natCast,↓X2,wA,↓reduceIte,reduceIte,reduceCtorEq,Y1,Y2,Y3,Y4,Y5,Y6,Y7,Y8,Y9,YA,wE]
 have sA:=hs a
 have sB:=hs b
 have sC:=hs c
 generalize hA:L.getD a v0=A at *
 generalize hB:L.getD b v0=B at *
 generalize hC:L.getD c v0=C at *
 have hfree:∀ q,AM L a b c q=(q=a∨q=c∨q=b∨¬ cM A B C (L.getD q v0)):=fun q=>by unfold AM; rw [hA,hB,hC]
 refine Xg (fun j:Nat=>⟨11,[52,53,54,77,78,79],[kf L R,I p,.any,.any,.any,I a,I c,Ia A B C,.any,.any,.any],[(52,X8 (zs R)),(53,I R.length),(54,I j)],[]⟩) (fun j=>j≤R.length∧∀ i,i<j→AM L a b c (R.getD i 0)) (fun j=>R.length - j) 0 ⟨by omega,fun i hi=>absurd hi (Nat.not_lt_zero i)⟩
  (Xa rfl (by simp [Xh,Q6,X5,X4,Xn,XY,I]) (by simp [Xi,Xz,X4,Xn,I]) rfl) ?_
 rintro j ⟨hj,hno⟩ next
 have w1:=wj j (by omega)
 by_cases hj2:j<R.length
 rotate_left
 ·obtain rfl:j=R.length:=by omega
  have hE:E=true:=by rw [hear]; exact decide_eq_true ⟨by omega,hno⟩
  refine X0 1000 ?_
  simp only [Q6,X5,X4,Xn,XY,Int.lt_irrefl,Nat.lt_irrefl,↓X2,wA,↓reduceIte,reduceIte,reduceCtorEq,Y1,Y2,Y3,Y4,Y5,Y6,Y7,Y8,Y9,YA,wE]
  exact Xt (v:=.bool true) rfl rfl (X3 _) (by rw [hE])
 have k1:((j:Int)<R.length)=True:=eq_true (by omega)
 have k2:(j<R.length)=True:=eq_true hj2
 have k3:(j+1≤R.length)=True:=eq_true (by omega)
 have v3:=Bg R j
 have m4:=hmem j
 have nx:=next (j+1)
 have hgo:=fun hfr=>Kf.2 (show (∀ i,i<j→AM L a b c (R.getD i 0))∧AM L a b c (R.getD j 0) from ⟨hno,hfr⟩)
 have hstop:¬ AM L a b c (R.getD j 0)→E=false:=fun hb=>by rw [hear]; exact decide_eq_false fun hh=>hb (hh.2 j hj2)
 rw [hfree] at hgo hstop
 generalize R.getD j 0=q at *
 have sQ:=hs q
 by_cases q1:q=a
 ·have g1:((q:Int)=(a:Int))=True:=eq_true (by omega)
  refine X0 1000 ?_
  simp only [Q6,X5,X4,Xn,XY,w1,f1,f2,f3,v2,k1,k2,k3,v3,g1,Int.toNat_natCast,↓X2,wA,↓reduceIte,reduceIte,reduceCtorEq,Y1,Y2,Y3,Y4,Y5,Y6,Y7,Y8,Y9,YA,wE]
  exact nx _ ⟨by omega,hgo (.inl q1)⟩ (by omega) (Xa rfl (by simp [Xh,Q6,X5,X4,Xn,XY,I]) (by simp [Xi,Xz,X4,Xn,I]) rfl)
 have g1':((q:Int)=(a:Int))=False:=eq_false (by omega)
 by_cases q2:q=c
 ·have g2:((q:Int)=(c:Int))=True:=eq_true (by omega)
  refine X0 1000 ?_
  simp only [Q6,X5,X4,Xn,XY,w1,f1,f2,f3,v2,k1,k2,k3,v3,g1',g2,Int.toNat_natCast,↓X2,wA,↓reduceIte,reduceIte,reduceCtorEq,Y1,Y2,Y3,Y4,Y5,Y6,Y7,Y8,Y9,YA,wE]
  exact nx _ ⟨by omega,hgo (.inr (.inl q2))⟩ (by omega) (Xa rfl (by simp [Xh,Q6,X5,X4,Xn,XY,I]) (by simp [Xi,Xz,X4,Xn,I]) rfl)
 have g2':((q:Int)=(c:Int))=False:=eq_false (by omega)
 by_cases q3:q=b
 ·have g3:((q:Int)=(b:Int))=True:=eq_true (by omega)
  refine X0 1000 ?_
  simp only [Q6,X5,X4,Xn,XY,w1,f1,f2,f3,v2,k1,k2,k3,v3,g1',g2',g3,Int.toNat_natCast,↓X2,wA,↓reduceIte,reduceIte,reduceCtorEq,Y1,Y2,Y3,Y4,Y5,Y6,Y7,Y8,Y9,YA,wE]
  exact nx _ ⟨by omega,hgo (.inr (.inr (.inl q3)))⟩ (by omega) (Xa rfl (by simp [Xh,Q6,X5,X4,Xn,XY,I]) (by simp [Xi,Xz,X4,Xn,I]) rfl)
 have g3':((q:Int)=(b:Int))=False:=eq_false (by omega)
 refine X0 1000 ?_
 simp only [Q6,X5,X4,Xn,XY,w1,f1,f2,f3,v2,k1,k2,k3,v3,g1',g2',g3',Int.toNat_natCast,↓X2,wA,↓reduceIte,reduceIte,reduceCtorEq,Y1,Y2,Y3,Y4,Y5,Y6,Y7,Y8,Y9,YA,wE]
 have x1:((q:Int)<L.length)=True:=eq_true (by omega)
 have x2:(q<L.length)=True:=eq_true m4
 have x3:(q*8+8≤L.length*8)=True:=eq_true (by omega)
 have vq:=vF L q
 generalize hQ:L.getD q v0=Q at *
 have z0:((0:Int)<3)=True:=eq_true (by omega)
 have z1:((1:Int)<3)=True:=eq_true (by omega)
 have z2:((2:Int)<3)=True:=eq_true (by omega)
 have z3:((3:Int)<3)=False:=eq_false (by omega)
 have t1:IntKind.i64.wrap (0+1)=1:=rfl
 have t2:IntKind.i64.wrap (1+1)=2:=rfl
 have t3:IntKind.i64.wrap (2+1)=3:=rfl
 have r1:(1:Int).tmod 3=1:=rfl
 have r2:(2:Int).tmod 3=2:=rfl
 have r3:(3:Int).tmod 3=0:=rfl
 have c3:((3:Nat):Int)=3:=rfl
 have d0:Int.toNat 0=0:=rfl
 have d1:Int.toNat 1=1:=rfl
 have d2:Int.toNat 2=2:=rfl
 have c11:((1:Nat):Int)=1:=rfl
 have c22:((2:Nat):Int)=2:=rfl
 have n3:((3:Int)=0)=False:=eq_false (by omega)
 have p0:((0:Int)≤0)=True:=eq_true (by omega)
 have p1:((0:Int)≤1)=True:=eq_true (by omega)
 have p2:((0:Int)≤2)=True:=eq_true (by omega)
 have o1:IntKind.i64.wrap 1=1:=rfl
 have o2:IntKind.i64.wrap 2=2:=rfl
 have o3:IntKind.i64.wrap 0=0:=rfl
 refine Xg (fun i:Nat=>⟨11,[52,53,54,77,78,79],[kf L R,I p,.any,.any,.any,I a,I c,Ia A B C,.any,I q,.any],[(77,Ia A B C),(78,I 3),(79,I i),(52,X8 (zs R)),(53,I R.length),(54,I j)],[]⟩) (fun i=>i≤3∧((0<i→0≤Jg A B Q)∧(1<i→0≤Jg B C Q)∧(2<i→0≤Jg C A Q))) (fun i=>3 - i) 0 ⟨by omega,by omega,by omega,by omega⟩
  (Xa rfl (by simp [Xh,Q6,X5,X4,Xn,XY,I]) (by simp [Xi,Xz,X4,Xn,XY,I]) rfl) ?_
 rintro i ⟨hi,hin⟩ next2
 rcases (show i=0∨i=1∨i=2∨i=3 by omega) with rfl | rfl | rfl | rfl
 ·have cs:=ZA A B Q (by unfold vs; omega) (by unfold vs; omega) (by unfold vs; omega)
  have n2:=next2 1
  refine X0 1000 ?_
  simp only [Q6,X5,X4,Xn,XY,w1,z0,z1,z2,z3,t1,t2,t3,x1,x2,x3,o1,o2,o3,c3,d0,d1,d2,c11,c22,n3,p0,p1,p2,not_false_eq_true,true_and,r1,r2,r3,vq,Int.toNat_natCast,↓X2,wA,↓reduceIte,reduceIte,reduceCtorEq,Y1,Y2,Y3,Y4,Y5,Y6,Y7,Y8,Y9,YA,wE]
  refine X1 cs rfl ?_
  by_cases hneg:Jg A B Q<0
  ·simp only [eq_true hneg,Q6,X5,X4,Xn,XY,w1,↓X2,wA,↓reduceIte,reduceIte,reduceCtorEq,Y1,Y2,Y3,Y4,Y5,Y6,Y7,Y8,Y9,YA,wE]
   exact nx _ ⟨by omega,hgo (.inr (.inr (.inr fun hh=>by unfold cM at hh; omega)))⟩ (by omega) (Xa rfl (by simp [Xh,Q6,X5,X4,Xn,XY,I]) (by simp [Xi,Xz,X4,Xn,I]) rfl)
  ·simp only [eq_false hneg,Q6,X5,X4,Xn,XY,w1,t1,t2,t3,↓X2,wA,↓reduceIte,reduceIte,reduceCtorEq,Y1,Y2,Y3,Y4,Y5,Y6,Y7,Y8,Y9,YA,wE]
   exact n2 _ ⟨by omega,by omega⟩ (by omega) (Xa rfl (by simp [Xh,Q6,X5,X4,Xn,XY,I]) (by simp [Xi,Xz,X4,Xn,XY,I]) rfl)
 ·have cs:=ZA B C Q (by unfold vs; omega) (by unfold vs; omega) (by unfold vs; omega)
  have n2:=next2 2
  refine X0 1000 ?_
  simp only [Q6,X5,X4,Xn,XY,w1,z0,z1,z2,z3,t1,t2,t3,x1,x2,x3,o1,o2,o3,c3,d0,d1,d2,c11,c22,n3,p0,p1,p2,not_false_eq_true,true_and,r1,r2,r3,vq,Int.toNat_natCast,↓X2,wA,↓reduceIte,reduceIte,reduceCtorEq,Y1,Y2,Y3,Y4,Y5,Y6,Y7,Y8,Y9,YA,wE]
  refine X1 cs rfl ?_
  by_cases hneg:Jg B C Q<0
  ·simp only [eq_true hneg,Q6,X5,X4,Xn,XY,w1,↓X2,wA,↓reduceIte,reduceIte,reduceCtorEq,Y1,Y2,Y3,Y4,Y5,Y6,Y7,Y8,Y9,YA,wE]
   exact nx _ ⟨by omega,hgo (.inr (.inr (.inr fun hh=>by unfold cM at hh; omega)))⟩ (by omega) (Xa rfl (by simp [Xh,Q6,X5,X4,Xn,XY,I]) (by simp [Xi,Xz,X4,Xn,I]) rfl)
  ·simp only [eq_false hneg,Q6,X5,X4,Xn,XY,w1,t1,t2,t3,↓X2,wA,↓reduceIte,reduceIte,reduceCtorEq,Y1,Y2,Y3,Y4,Y5,Y6,Y7,Y8,Y9,YA,wE]
   exact n2 _ ⟨by omega,by omega⟩ (by omega) (Xa rfl (by simp [Xh,Q6,X5,X4,Xn,XY,I]) (by simp [Xi,Xz,X4,Xn,XY,I]) rfl)
 ·have cs:=ZA C A Q (by unfold vs; omega) (by unfold vs; omega) (by unfold vs; omega)
  have n2:=next2 3
  refine X0 1000 ?_
  simp only [Q6,X5,X4,Xn,XY,w1,z0,z1,z2,z3,t1,t2,t3,x1,x2,x3,o1,o2,o3,c3,d0,d1,d2,c11,c22,n3,p0,p1,p2,not_false_eq_true,true_and,r1,r2,r3,vq,Int.toNat_natCast,↓X2,wA,↓reduceIte,reduceIte,reduceCtorEq,Y1,Y2,Y3,Y4,Y5,Y6,Y7,Y8,Y9,YA,wE]
  refine X1 cs rfl ?_
  by_cases hneg:Jg C A Q<0
  ·simp only [eq_true hneg,Q6,X5,X4,Xn,XY,w1,↓X2,wA,↓reduceIte,reduceIte,reduceCtorEq,Y1,Y2,Y3,Y4,Y5,Y6,Y7,Y8,Y9,YA,wE]
   exact nx _ ⟨by omega,hgo (.inr (.inr (.inr fun hh=>by unfold cM at hh; omega)))⟩ (by omega) (Xa rfl (by simp [Xh,Q6,X5,X4,Xn,XY,I]) (by simp [Xi,Xz,X4,Xn,I]) rfl)
  ·simp only [eq_false hneg,Q6,X5,X4,Xn,XY,w1,t1,t2,t3,↓X2,wA,↓reduceIte,reduceIte,reduceCtorEq,Y1,Y2,Y3,Y4,Y5,Y6,Y7,Y8,Y9,YA,wE]
   exact n2 _ ⟨by omega,by omega⟩ (by omega) (Xa rfl (by simp [Xh,Q6,X5,X4,Xn,XY,I]) (by simp [Xi,Xz,X4,Xn,XY,I]) rfl)
 ·have hE:E=false:=hstop (by
   rintro (e | e | e | e)
   ·exact q1 e
   ·exact q2 e
   ·exact q3 e
   ·exact e ⟨hin.1 (by omega),hin.2.1 (by omega),hin.2.2 (by omega)⟩)
  refine X0 1000 ?_
  simp only [Q6,X5,X4,Xn,XY,z3,c3,↓X2,wA,↓reduceIte,reduceIte,reduceCtorEq,Y1,Y2,Y3,Y4,Y5,Y6,Y7,Y8,Y9,YA,wE]
  exact Xt (v:=.bool false) rfl rfl (X3 _) (by rw [hE])
theorem Fa (i:Nat):zs (List.range (i+1))=zs (List.range i) ++ [(i:Int)]:=by unfold zs; rw [List.range_succ,List.map_append]; rfl
theorem qi (L:List V2) (hl:L.length<1000000):HCall Tryz.prog 273 [Xp L] [] (.ref 0 0 0) (LV L (2*L.length) (List.range L.length)):=by
 refine HCall.intro (fn:=Tryz.f273) Tryz.call273 Tryz.func273 rfl mixed 5 [8,9,10] [] [] (by kernel_rfl) (Nat.le_of_ble_eq_true rfl) (X0 1000 ?_)
 simp only [AS.start,X5,↓X2,wF,seval]
 refine Xg (fun i:Nat=>⟨5,[8,9,10],[.any,.any,.any,.ref 0 0 0,.any],[(8,Xp L),(9,I L.length),(10,I i)],[.row 0 2 (Xo [Xp L,.osl 1 i 1 0 i]),.row i i (Qa I 0 (zs (List.range i)))]⟩) (fun i=>i≤L.length) (fun i=>L.length - i) 0 (by omega)
  (Sub.trans (IC (Qa I 0 (zs (List.range 0)))) (Sub.trans (ZF 0 (Xo [Xp L,.osl 1 0 1 0 0]) rfl (fun j hj=>by
   match j,hj with
   | 0,_=>exact J1 _ _
   | 1,_ =>
    show ZK _ (.sl 0 0 (fun _=>.any) true) (.osl 1 0 1 0 0)
    exact Bo (n:=0) (f:=Qa I 0 (zs (List.range 0))) rfl
   | j+2,h=>exact absurd h (by show ¬ j+2<2; omega))) (Xa rfl (by simp [Xh]) (by simp [Xi,Xz,X5,I]) rfl))) ?_
 intro i hi next
 have w1:=wj i (by omega)
 by_cases hi2:i<L.length
 rotate_left
 ·obtain rfl:i=L.length:=by omega
  refine X0 1000 ?_
  simp only [X5,Int.lt_irrefl,Nat.lt_irrefl,↓X2,wF,seval]
  refine LU rfl rfl ?_
  rw [Ji,List.length_range,show 2*L.length - L.length=L.length by omega,X5]
 have nx:=next (i+1)
 rw [Fa] at nx
 have hz:(zs (List.range i)).length=i:=by rw [Xn,List.length_range]
 generalize zs (List.range i)=Z at *
 have f1:((i:Int)<L.length)=True:=eq_true (by omega)
 have f2:(i<L.length)=True:=eq_true hi2
 have hap:=CJ Z (i:Int)
 rw [hz] at hap
 refine X0 1000 ?_
 simp only [X5,w1,f1,f2,Int.toNat_natCast,↓X2,wF,seval]
 exact ⟨⟨by omega,by omega⟩,nx _ (by omega) (by omega) (Xa rfl (by simp [Xh]) (by simp [Xi,Xz,X5,I]) (by rw [← hap]; rfl))⟩
theorem qH (L:List V2) (N:Nat) (R:List Nat) (p k:Nat) (h:Rok L R) (hd:R.Nodup) (hN:R.length≤N) (h3:3<R.length) (hp:p<R.length) (hs:Q3 L k) (hk:k≤10000) :
  HCall Tryz.prog 275 [.ref 0 0 0,I p] (LV L N R) (.agg [I (nr R (p+R.length - 1)),I (R.getD p 0:Nat),I (nr R (p+R.length+1))]) (LV L N (Z9 L (R.length - 1) (R.eraseIdx p))):=by
 have c1:=GZ L R p h (by have:=h.len; omega)
 have cd:=N8 (.row 0 2 (Xo [Xp L,.osl 1 (N - R.length) 1 0 R.length])) (zs R) (N - R.length) p (by rw [Xn]; exact hp)
 rw [Xn,Tn] at cd
 have hl:(R.eraseIdx p).length=R.length - 1:=by rw [List.length_eraseIdx,if_pos hp]
 have cc:=eX L N (R.eraseIdx p) k (Bu h h3 hp) (hd.eraseIdx p) (by omega) hs hk
 rw [hl] at cc
 have v2:=Bg R p
 have hR:=h
 obtain ⟨h0,hn,hmem,hL⟩:=hR
 generalize Z9 L (R.length - 1) (R.eraseIdx p)=R2 at *
 generalize nr R (p+R.length - 1)=a at *
 generalize nr R (p+R.length+1)=c at *
 generalize R.getD p 0=b at *
 have f1:((p:Int)<R.length)=True:=eq_true (by omega)
 have f2:(p<R.length)=True:=eq_true hp
 have f3:(p+1≤R.length)=True:=eq_true (by omega)
 have w1:=wj p (by omega)
 refine HCall.introC (fn:=Tryz.f275) Tryz.call275 Tryz.func275 rfl mixed 8 [] [] [] (by kernel_rfl) (Nat.le_of_ble_eq_true rfl) (X6 (Qm (by simp [X9]))) (fun o ho=>((KB _ _ _).2 o ho).1) (X0 1000 ?_)
 simp only [AS.start,Ji,List.cons_append,List.nil_append,↓X2,wF,seval]
 refine JI c1 rfl ⟨IA (N:=N) (rest:=[.row 0 3 (Xo [I 0,I 0,I 0])]),QL (X9 _) rfl,trivial⟩ (gm (by simp [I,Cu])) ?_
 simp only [w1,f1,f2,f3,v2,Int.toNat_natCast,↓X2,wF,seval]
 have o2:∀ o∈[AO.row 0 2 (Xo [Xp L,.osl 1 (N - R.length) 1 0 R.length]),.row (N - R.length+1) (R.length - 1) (Qa I 0 (zs (R.eraseIdx p)))],o≠.unborn∧∀ v n f,o≠.con v n f:=fun o ho=>by
  simp only [List.mem_cons,List.not_mem_nil,or_false] at ho
  rcases ho with rfl | rfl <;> exact ⟨by simp,by simp⟩
 have bA:∀ a∈[AV.osl 1 (N - R.length) 1 0 R.length,I p,I ((p+1:Nat):Int)],JJ 2 a:=fun a ha=>by
  simp only [List.mem_cons,List.not_mem_nil,or_false] at ha
  rcases ha with rfl | rfl | rfl
  ·exact Ig (by omega)
  ·exact X6 (X9 _)
  ·exact X6 (X9 _)
 have bR:∀ a∈[AV.ref 0 0 0],JJ 2 a:=fun a ha=>by
  rw [List.mem_singleton.1 ha]
  have:JJ 2 (.ref 0 0 0)=True:=by simp [Xv]
  exact this▸trivial
 refine CK (H1:=LV L N R) (H1':=[AO.row 0 2 (Xo [Xp L,.osl 1 (N - R.length) 1 0 R.length]),.row (N - R.length+1) (R.length - 1) (Qa I 0 (zs (R.eraseIdx p)))]) (rest:=[.row 0 3 (Xo [I 0,I 0,I 0]),.row 0 3 (Xo [I a,I b,I c])]) rfl cd rfl rfl bA (fun o ho=>((KB L N R).2 o ho).1) (fun o ho=>((KB L N R).2 o ho).2.1) (fun o ho=>(o2 o ho).1) (QZ (fun o ho=>((KB L N R).2 o ho).2.2) (fun o ho=>(o2 o ho).2)) (Q0 _) ?_
 simp only [List.cons_append,List.nil_append,↓X2,wF,seval]
 refine CK (H1:=LV L N (R.eraseIdx p)) (H1':=LV L N R2) (rest:=[.row 0 3 (Xo [I 0,I 0,I 0]),.row 0 3 (Xo [I a,I b,I c])]) rfl cc (by rw [Ji,hl,show N - (R.length - 1)=N - R.length+1 by omega]; rfl) rfl bR (fun o ho=>((KB L N _).2 o ho).1) (fun o ho=>((KB L N _).2 o ho).2.1) (fun o ho=>((KB L N _).2 o ho).2.1) (QZ (fun o ho=>((KB L N _).2 o ho).2.2) (fun o ho=>((KB L N _).2 o ho).2.2)) (Q0 _) ?_
 simp only [Ji,List.cons_append,List.nil_append,↓X2,wF,seval]
 exact Wl (v:=.agg [I a,I b,I c]) rfl (by simp [AS.get,JG,gV,rd,Qp,Xo,A8,I]) rfl rfl
def cO (R:List Nat):AV:=.agg [X8 (zs R)]
theorem QK (R:List Nat):cO R=.agg [X8 (zs R)]:=nrfl rfl
theorem ZZ (R:List Nat):Settled (cO R):=Qm (by simp [X7])
theorem ED (R:List Nat) (p:Nat) (k:Int) (m:Nat) (h0:0<R.length) (hn:R.length<1000000) (hk:p+k+R.length=m) (hp:p<1000000) (h1:-10≤k) (h2:k≤10):Fn Tryz.prog 278 [cO R,I p,I k] (I (nr R m)):=by
 have w1:IntKind.i64.wrap ((p:Int)+k)=(p:Int)+k:=by rw [IntKind.wrap_i64]; omega
 have w2:IntKind.i64.wrap ((p:Int)+k+R.length)=(m:Int):=by rw [IntKind.wrap_i64]; omega
 have hmod:(m:Int).tmod R.length=((m % R.length:Nat):Int):=rfl
 have hlt:m % R.length<R.length:=Nat.mod_lt _ h0
 have f1:(((m % R.length:Nat):Int)<R.length)=True:=eq_true (by omega)
 have f2:(m % R.length<R.length)=True:=eq_true hlt
 have f3:(m % R.length+1≤R.length)=True:=eq_true (by omega)
 have f6:((R.length:Int)=0)=False:=eq_false (by omega)
 have f6':(R.length=0)=False:=eq_false (by omega)
 have w3:IntKind.i64.wrap (((m % R.length:Nat):Int))=((m % R.length:Nat):Int):=by rw [IntKind.wrap_i64]; omega
 have v1:=pE R m
 refine Fq Tryz.call278 Tryz.func278 8 [] [] [] (by simp [ZZ,X9]) (X0 1000 ?_)
 simp only [AS.start,QK,X4,Xn,w1,w2,w3,hmod,f1,f2,f3,f6,f6',v1,Int.toNat_natCast,↓X2,wF,seval]
 exact Xt rfl rfl (X9 _) rfl
theorem SG (L:List V2) (R:List Nat) (p k:Nat) (h:Rok L R) (hp:p<R.length) (hs:Q3 L k) (hk:k≤10000):Fn Tryz.prog 292 [Xp L,cO R,I p] (I (Hp L R p)):=by
 have c1:=ED R p (-1) (p+R.length - 1) h.pos h.len (by have:=h.pos; omega) (by have:=h.len; omega) (by omega) (by omega)
 have c3:=ED R p 1 (p+R.length+1) h.pos h.len (by omega) (by have:=h.len; omega) (by omega) (by omega)
 have c2:=AU (L.getD (nr R (p+R.length - 1)) v0) (L.getD (R.getD p 0) v0) (L.getD (nr R (p+R.length+1)) v0) (by have:=hs (nr R (p+R.length - 1)); unfold vs; omega) (by have:=hs (R.getD p 0); unfold vs; omega) (by have:=hs (nr R (p+R.length+1)); unfold vs; omega)
 obtain ⟨h0,hn,hmem,hL⟩:=h
 have m1:=hmem ((p+R.length - 1) % R.length)
 have m2:=hmem ((p+R.length+1) % R.length)
 have m3:=hmem p
 change nr R (p+R.length - 1)<L.length at m1
 change nr R (p+R.length+1)<L.length at m2
 unfold Hp
 generalize nr R (p+R.length - 1)=a at *
 generalize nr R (p+R.length+1)=c at *
 have v2:=Bg R p
 generalize R.getD p 0=b at *
 have f1:((p:Int)<R.length)=True:=eq_true (by omega)
 have f2:(p<R.length)=True:=eq_true hp
 have f3:(p+1≤R.length)=True:=eq_true (by omega)
 have a1:((a:Int)<L.length)=True:=eq_true (by omega)
 have a2:(a<L.length)=True:=eq_true m1
 have a3:(a*8+8≤L.length*8)=True:=eq_true (by omega)
 have b1:((b:Int)<L.length)=True:=eq_true (by omega)
 have b2:(b<L.length)=True:=eq_true m3
 have b3:(b*8+8≤L.length*8)=True:=eq_true (by omega)
 have e1:((c:Int)<L.length)=True:=eq_true (by omega)
 have e2:(c<L.length)=True:=eq_true m2
 have e3:(c*8+8≤L.length*8)=True:=eq_true (by omega)
 have va:=vF L a
 have vb:=vF L b
 have vc:=vF L c
 refine Fq Tryz.call292 Tryz.func292 7 [] [] [] (by simp [Xf,ZZ,X9]) (X0 1000 ?_)
 simp only [AS.start,QK,X5,X4,Xn,↓X2,wF,seval]
 refine X1 c1 (by simp only [QK,X4,Xn]; rfl) ?_
 simp only [QK,X5,X4,Xn,f1,f2,f3,a1,a2,a3,b1,b2,b3,e1,e2,e3,va,vb,vc,v2,Int.toNat_natCast,↓X2,wF,seval]
 refine X1 c3 (by simp only [QK,X4,Xn]; rfl) ?_
 simp only [QK,X5,X4,Xn,f1,f2,f3,a1,a2,a3,b1,b2,b3,e1,e2,e3,va,vb,vc,v2,Int.toNat_natCast,↓X2,wF,seval]
 refine X1 c2 rfl ?_
 simp only [↓X2,wF,seval]
 exact Xt rfl rfl (X9 _) rfl
theorem rP (a b c q:V2) (ha:vb a≤vs) (hb:vb b≤vs) (hc:vb c≤vs) (hq:vb q≤vs):Fn Tryz.prog 293 [vA a,vA b,vA c,vA q] (.bool (decide (cM a b c q))):=by
 have c1:=AU a b q ha hb hq
 have c2:=AU b c q hb hc hq
 have c3:=AU c a q hc ha hq
 have hin:decide (cM a b c q)=decide (0≤Jg a b q∧0≤Jg b c q∧0≤Jg c a q):=decide_eq_decide.2 Iff.rfl
 generalize decide (cM a b c q)=E at *
 generalize Jg a b q=x at *
 generalize Jg b c q=y at *
 generalize Jg c a q=z at *
 refine Fq Tryz.call293 Tryz.func293 9 [] [] [] (by simp [Xm]) (X0 1000 ?_)
 simp only [AS.start,↓X2,wF,seval]
 refine X1 c1 rfl ?_
 by_cases h1:0≤x
 rotate_left
 ·have g1:(0≤x)=False:=eq_false h1
  have hE:E=false:=by rw [hin]; exact decide_eq_false (fun h=>h1 h.1)
  simp only [g1,↓X2,wF,seval]
  exact Xt (v:=.bool false) rfl rfl (X3 _) (by rw [hE])
 have g1:(0≤x)=True:=eq_true h1
 simp only [g1,↓X2,wF,seval]
 refine X1 c2 rfl ?_
 by_cases h2:0≤y
 rotate_left
 ·have g2:(0≤y)=False:=eq_false h2
  have hE:E=false:=by rw [hin]; exact decide_eq_false (fun h=>h2 h.2.1)
  simp only [g1,g2,↓X2,wF,seval]
  exact Xt (v:=.bool false) rfl rfl (X3 _) (by rw [hE])
 have g2:(0≤y)=True:=eq_true h2
 simp only [g1,g2,↓X2,wF,seval]
 refine X1 c3 rfl ?_
 by_cases h3:0≤z
 rotate_left
 ·have g3:(0≤z)=False:=eq_false h3
  have hE:E=false:=by rw [hin]; exact decide_eq_false (fun h=>h3 h.2.2)
  simp only [g1,g2,g3,↓X2,wF,seval]
  exact Xt (v:=.bool false) rfl rfl (X3 _) (by rw [hE])
 have g3:(0≤z)=True:=eq_true h3
 have hE:E=true:=by rw [hin]; exact decide_eq_true ⟨h1,h2,h3⟩
 simp only [g1,g2,g3,↓X2,wF,seval]
 exact Xt (v:=.bool true) rfl rfl (X3 _) (by rw [hE])
theorem T2 {R:List Nat} {i:Nat} (h:i<R.length):R.take (i+1)=R.take i ++ [R.getD i 0]:=by
 rw [List.take_add_one,List.getD_eq_getElem?_getD,List.getElem?_eq_getElem h]; rfl
theorem fU {R:List Nat} {i:Nat} (h:i<R.length):(R.take (i+1)).eraseIdx i=R.take i:=by
 have hl:(R.take i).length=i:=by rw [List.length_take]; omega
 rw [T2 h,List.eraseIdx_append_of_length_le (by omega),hl,Nat.sub_self]
 simp
theorem fT {R:List Nat} {i p:Nat} (h:i<R.length) (hp:i≠p):(R.take (i+1)).eraseIdx p=(R.take i).eraseIdx p ++ [R.getD i 0]:=by
 have hl:(R.take i).length=i:=by rw [List.length_take]; omega
 rw [T2 h]
 by_cases hlt:p<i
 ·rw [List.eraseIdx_append_of_lt_length (by omega)]
 ·rw [List.eraseIdx_of_length_le (by simp; omega),List.eraseIdx_of_length_le (by omega)]
theorem oQ (R:List Nat) (x:Nat):zs (R ++ [x])=zs R ++ [(x:Int)]:=by unfold zs; rw [List.map_append]; rfl
theorem Ml (R:List Nat) (p:Nat) (hn:R.length<1000000) (hp:p<1000000):Fn Tryz.prog 280 [cO R,I p] (cO (R.eraseIdx p)):=by
 have s0:∀ v n l,XK 3 (.row v n (Qa I 0 l))=True:=fun v n l=>eq_true fun j _=>X6 (X9 _)
 refine Fq Tryz.call280 Tryz.func280 7 [] [6,70000002,7001] [] (by simp [ZZ,X9]) (X0 1000 ?_)
 simp only [AS.start,QK,X4,Xn,↓X2,wF,seval]
 refine Xg (fun i:Nat=>⟨7,[],[cO R,I p,.ref 0 0 0,.any,.ref 1 0 0,.ref 2 0 0,I i],[],[.con 0 1 (Xo [X8 (zs R)]),.row 0 1 (Xo [.sl 0 0 (fun _=>.any) true]),.row 0 1 (Xo [.osl 3 ((R.take i).eraseIdx p).length 1 0 ((R.take i).eraseIdx p).length]),.row ((R.take i).eraseIdx p).length ((R.take i).eraseIdx p).length (Qa I 0 (zs ((R.take i).eraseIdx p)))]⟩) (fun i=>i≤R.length) (fun i=>R.length - i) 0 (by omega)
  (Sub.trans (XR 0 rfl) ((Qr 2 1 (fun _=>.sl 0 0 (fun _=>.any) true) rfl (Nat.le_refl _) (fun j hj=>by have e:j=0:=Nat.lt_one_iff.1 hj; subst e; rfl)).trans ((BR 2 1 (Qa I 0 []) rfl 1 (Nat.le_refl _)).trans ((Qr 2 1 (Xo [.osl 3 0 1 0 0]) rfl (Nat.le_refl _) (fun j hj=>by have e:j=0:=Nat.lt_one_iff.1 hj; subst e; rfl)).trans (Xa rfl (by simp [Xh,QK,X4,Xn,I]) (by simp [Xi]) (by simp [X4,Xn,zs])))))) ?_
 intro i hi next
 have w1:=wj i (by omega)
 by_cases hi2:i<R.length
 rotate_left
 ·obtain rfl:i=R.length:=by omega
  rw [List.take_length] at *
  refine X0 1000 ?_
  simp only [QK,X4,Xn,Int.lt_irrefl,Nat.lt_irrefl,↓X2,wF,seval]
  have hz:=EN (l:=zs (R.eraseIdx p)) (H:=[.con 0 1 (Xo [.sl R.length R.length (Qa I 0 (zs R)) false]),.row 0 1 (Xo [.osl 3 (R.eraseIdx p).length 1 0 (R.eraseIdx p).length]),.row 0 1 (Xo [.osl 3 (R.eraseIdx p).length 1 0 (R.eraseIdx p).length]),.row (R.eraseIdx p).length (R.eraseIdx p).length (Qa I 0 (zs (R.eraseIdx p)))]) (id:=3) (ver:=(R.eraseIdx p).length) (n:=(R.eraseIdx p).length) rfl (by rw [Xn]; exact Nat.le_refl _)
  rw [Xn] at hz
  exact BN (v:=.agg [.osl 3 (R.eraseIdx p).length 1 0 (R.eraseIdx p).length]) rfl (by simp [AS.get,JG,OJ,rd,Qp,Xo,A8]) (ZD ⟨hz,trivial⟩)
 have f1:((i:Int)<R.length)=True:=eq_true (by omega)
 have f2:(i<R.length)=True:=eq_true hi2
 have f3:(i+1≤R.length)=True:=eq_true (by omega)
 have v1:=Bg R i
 have nx:=next (i+1)
 by_cases hip:i=p
 ·subst hip
  have g1:((i:Int)=(i:Int))=True:=eq_true rfl
  have e0:(R.take i).eraseIdx i=R.take i:=List.eraseIdx_of_length_le (by rw [List.length_take]; omega)
  rw [fU hi2] at nx
  rw [e0]
  refine X0 1000 ?_
  simp only [QK,X4,Xn,w1,f1,f2,f3,v1,g1,Int.toNat_natCast,↓X2,wF,seval]
  exact nx _ (by omega) (by omega) (Xa rfl (by simp [Xh,QK,X4,Xn,I]) (by simp [Xi]) (by simp [X4,Xn]))
 ·have g1:((i:Int)=(p:Int))=False:=eq_false (by omega)
  have hle:((R.take i).eraseIdx p).length≤R.length:=by
   have:=List.length_eraseIdx_le (R.take i) p
   rw [List.length_take] at this; omega
  rw [fT hi2 hip,oQ,List.length_append,List.length_singleton] at nx
  generalize (R.take i).eraseIdx p=W at *
  have hap:=CJ (zs W) ((R.getD i 0:Nat):Int)
  rw [Xn] at hap
  refine X0 1000 ?_
  simp only [QK,X4,Xn,w1,f1,f2,f3,v1,g1,Int.toNat_natCast,↓X2,wF,seval]
  exact ⟨⟨by omega,by omega⟩,nx _ (by omega) (by omega) (Xa rfl (by simp [Xh,QK,X4,Xn,I]) (by simp [Xi]) (by rw [← hap]; simp [X4,Xn,I]))⟩
theorem uZ {a b:Int} (h:a<b):(a<b)=True:=eq_true h
theorem uu {a b:Int} (h:b≤a):(a<b)=False:=eq_false (by omega)
theorem uY {a b:Int} (h:a≤b):(a≤b)=True:=eq_true h
theorem ut {a b:Int} (h:b<a):(a≤b)=False:=eq_false (by omega)
theorem uX {a b:Int} (h:a=b):(a=b)=True:=eq_true h
theorem ur {a b:Int} (h:a≠b):(a=b)=False:=eq_false h
theorem v8 {a b:Nat} (h:a<b):(a<b)=True:=eq_true h
theorem uG {a b:Nat} (h:b≤a):(a<b)=False:=eq_false (by omega)
theorem v7 {a b:Nat} (h:a≤b):(a≤b)=True:=eq_true h
theorem uF {a b:Nat} (h:b<a):(a≤b)=False:=eq_false (by omega)
theorem uD {a b:Nat} (h:a=b):(a=b)=True:=eq_true h
theorem uE {a b:Nat} (h:a≠b):(a=b)=False:=eq_false h
theorem tk {x:Int} (h:-9223372036854775808≤x∧x<9223372036854775808):IntKind.i64.wrap x=x:=by rw [IntKind.wrap_i64]; omega
theorem uv {n:Nat}:(n:Int).toNat=n:=Int.toNat_natCast n
theorem uc (f:Nat→AV) (i:Nat) (v:AV) (j:Nat):BX f i v j=if j=i then v else f j:=nrfl rfl
def ck (l:List AV) (i:Nat) (a:AV):Nat→AV:=BX (Xo l) i a
def VD (x:AV) (f:Nat→AV):Nat→AV:=fun j=>match j with | 0=>x | j+1=>f j
theorem s8 (l:List AV) (i:Nat) (a:AV):BX (Xo l) i a=ck l i a:=nrfl rfl
theorem sa (x a:AV) (l:List AV):ck (x :: l) 0 a=Xo (a :: l):=by
 funext j; unfold ck BX Xo; cases j <;> simp
theorem s9 (x a:AV) (l:List AV) (n:Nat):ck (x :: l) (n+1) a=VD x (ck l n a):=by
 funext j; unfold ck BX Xo VD; cases j <;> simp
theorem lM (x:AV) (l:List AV):VD x (Xo l)=Xo (x :: l):=by
 funext j; unfold Xo VD; cases j <;> simp
def sg (x:Rat):Bool:=decide (x.num<0)
theorem uP (x:Rat):decide (x.num<0)=sg x:=nrfl rfl
set_option linter.defProp false in
def wD:=And.intro @uc (And.intro @s8 <| And.intro @sa <| And.intro @s9 <| And.intro @lM <| And.intro @uZ (And.intro @uu (And.intro @uY (And.intro @ut (And.intro @uX (And.intro @ur (And.intro @v8 (And.intro @uG (And.intro @v7 (And.intro @uF (And.intro @uD (And.intro @uE (And.intro @tk @uv)))))))))))))
set_option linter.defProp false in
def Xw:=And.intro @uP X2
set_option linter.defProp false in
def wG:=And.intro wD wF
def tC (d:Nat×Nat×Nat):List AV:=[I d.1,I d.2.1,I d.2.2]
theorem FE (d:Nat×Nat×Nat):∀ x∈tC d,Settled x:=by simp [tC,X9]
def jt (l:List (Nat×Nat×Nat)):AV:=sD tC 3 (0,0,0) l
theorem Ai (l:List (Nat×Nat×Nat)):jt l=.sl l.length (l.length*3) (Xs tC 3 (0,0,0) l) false:=nrfl rfl
theorem HV (l:List (Nat×Nat×Nat)):Settled (jt l):=J9 fun j _=>Xc (FE _) _
def FZ (L:List V2) (R:List Nat):Nat:=(List.range (R.length - 1)).findIdx (B6 L R)
theorem VL (L:List V2) (R:List Nat):FZ L R≤R.length - 1:=by
 have:=List.findIdx_le_length (xs:=List.range (R.length - 1)) (p:=B6 L R)
 rwa [List.length_range] at this
theorem VK {L:List V2} {R:List Nat} {p:Nat} (h1:p≤R.length - 1) (h2:∀ j,j<p→B6 L R j=false) (h3:p=R.length - 1∨B6 L R p=true):FZ L R=p:=by
 have hle:=VL L R
 rcases Nat.lt_trichotomy (FZ L R) p with h | h | h
 ·have:=List.findIdx_getElem (xs:=List.range (R.length - 1)) (p:=B6 L R) (w:=by rw [List.length_range]; unfold FZ at h; omega)
  rw [List.getElem_range] at this
  have h4:=h2 _ h
  unfold FZ at h4
  rw [h4] at this; cases this
 ·exact h
 ·rcases h3 with h3 | h3
  ·omega
  ·have:=List.not_of_lt_findIdx (xs:=List.range (R.length - 1)) (p:=B6 L R) (i:=p) h
   rw [List.getElem_range,h3] at this
   exact absurd this (by simp)
def ES (R:List Nat) (p:Nat):Nat×Nat×Nat:=(nr R (p+R.length - 1),R.getD p 0,nr R (p+R.length+1))
def BV (L:List V2) (R:List Nat):List Nat:=Z9 L (R.length - 1) (R.eraseIdx (FZ L R))
def Bx (L:List V2):Nat→List Nat→List (Nat×Nat×Nat)
 | 0,R=>[(R.getD 0 0,R.getD 1 0,R.getD 2 0)]
 | f+1,R=>if 3<R.length then ES R (FZ L R) :: Bx L f (BV L R) else [(R.getD 0 0,R.getD 1 0,R.getD 2 0)]
def BU (L:List V2):List (Nat×Nat×Nat):=Bx L L.length (List.range L.length)
theorem eY (L:List V2):∀ (f:Nat) (R:List Nat),Rok L R→R.Nodup→3≤R.length→Rok L (Z9 L f R)∧(Z9 L f R).Nodup∧3≤(Z9 L f R).length∧(Z9 L f R).length≤R.length
 | 0,R,h,hd,h3=>⟨h,hd,h3,Nat.le_refl _⟩
 | f+1,R,h,hd,h3=>by
  unfold Z9
  split
  ·rename_i hc
   have hl:(R.eraseIdx (KP L R)).length=R.length - 1:=by rw [List.length_eraseIdx,if_pos hc.2]
   obtain ⟨a1,a2,a3,a4⟩:=eY L f _ (Bu h hc.1 hc.2) (hd.eraseIdx _) (by omega)
   exact ⟨a1,a2,a3,by omega⟩
  ·exact ⟨h,hd,h3,Nat.le_refl _⟩
theorem Er {L:List V2} {R:List Nat} (h:Rok L R) (hd:R.Nodup) (h3:3<R.length):Rok L (BV L R)∧(BV L R).Nodup∧3≤(BV L R).length∧(BV L R).length≤R.length - 1:=by
 have hp:FZ L R<R.length:=by have:=VL L R; omega
 have hl:(R.eraseIdx (FZ L R)).length=R.length - 1:=by rw [List.length_eraseIdx,if_pos hp]
 obtain ⟨a1,a2,a3,a4⟩:=eY L (R.length - 1) _ (Bu h h3 hp) (hd.eraseIdx _) (by omega)
 exact ⟨a1,a2,a3,by unfold BV; omega⟩
theorem N7 (L:List V2):∀ (f g:Nat) (R:List Nat),Rok L R→R.Nodup→R.length≤f→R.length≤g→Bx L f R=Bx L g R
 | 0,g,R,h,_,hf,_=>by have:=h.pos; omega
 | f+1,0,R,h,_,_,hg=>by have:=h.pos; omega
 | f+1,g+1,R,h,hd,hf,hg=>by
  unfold Bx
  split
  ·rename_i h3
   obtain ⟨a1,a2,a3,a4⟩:=Er h hd h3
   rw [N7 L f g _ a1 a2 (by omega) (by omega)]
  ·rfl
theorem VF {L:List V2} {R:List Nat} (h:Rok L R) (hd:R.Nodup) (h3:3<R.length):Bx L R.length R=ES R (FZ L R) :: Bx L (BV L R).length (BV L R):=by
 obtain ⟨a1,a2,a3,a4⟩:=Er h hd h3
 cases hl:R.length with
 | zero=>omega
 | succ n =>
  show (if 3<R.length then _ else _)=_
  rw [if_pos h3,N7 L n (BV L R).length _ a1 a2 (by omega) (Nat.le_refl _)]
theorem R6 {L:List V2} {R:List Nat} (h3:¬ 3<R.length) (f:Nat):Bx L f R=[(R.getD 0 0,R.getD 1 0,R.getD 2 0)]:=by
 cases f with
 | zero=>rfl
 | succ n=>unfold Bx; rw [if_neg h3]
theorem Ay {L:List V2} (h:3≤L.length) (hl:L.length<1000000):Rok L (List.range L.length):=⟨by rw [List.length_range]; omega,by rw [List.length_range]; omega,fun j=>by
 rw [List.getD_eq_getElem?_getD]
 by_cases hj:j<L.length
 ·rw [List.getElem?_range hj]; exact hj
 ·rw [List.getElem?_eq_none (by rw [List.length_range]; omega)]; show 0<L.length; omega,hl⟩
theorem Wz {P:Program} {fn:Func} {str hcs:List Nat} {s:AS} {t u id ver:Nat} {e:AV} (D:List (Nat×Nat×Nat)) (hr:fn.results=#[.tmp t,.tmp u]) (hs:s.get t=.osl id ver 3 0 D.length) (ho:s.h[id]?=some (.row ver (D.length*3) (Xs tC 3 (0,0,0) D))) (hu:s.get u=e) (he:Settled e):RetOk (QI P fn str hcs (.tup [jt D,e])) s:=by
 refine SB hr (ZE ⟨?_,QL he hu,trivial⟩)
 rw [hs,Ai]
 refine Qx (.inl ho) (by omega) (fun h=>by rw [h]) fun j hj=>?_
 rw [Nat.zero_add]
 exact (Xc (FE _) _).sees _
theorem Pe (c:Nat×Nat×Nat):∀ j,j<3→((tC c).getD j .any).one=true:=fun j hj=>by
 match j,hj with
 | 0,_=>rfl
 | 1,_=>rfl
 | 2,_=>rfl
 | j+3,h=>omega
theorem lE (L:List V2) (k:Nat) (hs:Q3 L k) (hk:k≤1000) (hp:CW L):Fn Tryz.prog 263 [Xp L] (.tup [jt (BU L),I 0]):=by
 have hl:=hp.1
 have cv:=aZ L (fun i=>Nat.le_trans (hs i) hk) (by omega)
 rw [decide_eq_true hp] at cv
 have ca:=qi L (by omega)
 obtain ⟨T,hT⟩:∃ T,T=BU L:=⟨_,rfl⟩
 rw [← hT]
 have h0:=Ay hl.1 (by omega)
 have d0:(List.range L.length).Nodup:=List.nodup_range
 refine Fq Tryz.call263 Tryz.func263 7 [] [] [3,9] (by simp [Xf]) (X0 1000 ?_)
 simp only [AS.start,↓X2,wF,seval]
 refine X1 cv rfl ?_
 simp only [↓X2,wF,seval]
 refine KG rfl ca (QZ (fun o h=>absurd h (List.not_mem_nil)) (fun o ho=>((KB _ _ _).2 o ho).2.2)) (fun id=>by simp) (Q0 _) ?_
 have hlr:(List.range L.length).length=L.length:=List.length_range
 have hTc:T=Bx L (List.range L.length).length (List.range L.length):=by rw [hT,hlr]; rfl
 generalize hN:2*L.length=N
 generalize List.range L.length=R0 at *
 simp only [Ji,↓X2,wF,seval]
 refine Xg (fun w:List (Nat×Nat×Nat)×List Nat=>⟨7,[],[Xp L,.any,.any,.any,.ref 0 0 0,.osl 2 w.1.length 3 0 w.1.length,.any],[],LV L N w.2 ++ [.row w.1.length (w.1.length*3) (Xs tC 3 (0,0,0) w.1)]⟩) (fun w=>Rok L w.2∧w.2.Nodup∧3≤w.2.length∧w.1.length+w.2.length≤L.length∧w.1 ++ Bx L w.2.length w.2=T) (fun w=>w.2.length) ([],R0) ⟨h0,d0,by show 3≤R0.length; omega,by simp [hlr],by rw [hTc]; rfl⟩
  (Sub.trans (Q7 5 3 (Xs tC 3 (0,0,0) []) rfl) (Xa rfl (by simp [AS.put,Xh]) (by simp [AS.put,Xi]) (by simp [AS.put,Ji]))) ?_
 rintro ⟨D,R⟩ ⟨h,hd,h3,hDl,hDT⟩ next
 replace h:Rok L R:=h
 replace hd:R.Nodup:=hd
 replace h3:3≤R.length:=h3
 replace hDl:D.length+R.length≤L.length:=hDl
 replace hDT:D ++ Bx L R.length R=T:=hDT
 have hNR:R.length≤N:=by omega
 by_cases h4:3<R.length
 rotate_left
 ·have e3:R.length=3:=by omega
  rw [R6 h4] at hDT
  have hap:=XT tC 3 (0,0,0) D (R.getD 0 0,R.getD 1 0,R.getD 2 0) (by omega)
  rw [hDT] at hap
  have hTl:T.length=D.length+1:=by rw [← hDT]; simp
  refine X0 1000 ?_
  simp (disch:=omega) only [Ji,List.cons_append,List.nil_append,Bg,Kb,wD,↓X2,wF,seval]
  exact ⟨Pe (R.getD 0 0,R.getD 1 0,R.getD 2 0),Wz T rfl (by rw [hTl]; rfl) (by rw [hTl,← hap]; rfl) rfl (X9 _)⟩
 have hgo:=VF h hd h4
 obtain ⟨b1,b2,b3,b4⟩:=Er h hd h4
 refine X0 1000 ?_
 simp (disch:=omega) only [Ji,List.cons_append,List.nil_append,wD,↓X2,wF,seval]
 refine Xg (fun p:Nat=>⟨7,[],[Xp L,.any,.any,.any,.ref 0 0 0,.osl 2 D.length 3 0 D.length,I p],[],LV L N R ++ [.row D.length (D.length*3) (Xs tC 3 (0,0,0) D)]⟩) (fun p=>p≤R.length - 1∧∀ j,j<p→B6 L R j=false) (fun p=>R.length - p) 0 ⟨by omega,fun j hj=>absurd hj (Nat.not_lt_zero j)⟩
  (Xa rfl (by simp [Xh,I]) (by simp [Xi]) (by simp [Ji])) ?_
 rintro p ⟨hp1,hno⟩ next2
 have hn:=h.len
 have ce:=qL L R p k h (by omega) hs (by omega)
 have cc:=qH L N R p k h hd hNR h4 (by omega) hs (by omega)
 have hlr:(R.eraseIdx p).length=R.length - 1:=by rw [List.length_eraseIdx,if_pos (by omega)]
 by_cases hgo2:p<R.length - 1∧B6 L R p=false
 ·refine X0 1000 ?_
  simp (disch:=omega) only [Ji,List.cons_append,List.nil_append,wD,↓X2,wF,seval]
  refine JI ce rfl ⟨IA,QL (X9 _) rfl,trivial⟩ (As _) ?_
  simp (disch:=omega) only [hgo2.2,Ji,List.cons_append,List.nil_append,wD,↓X2,wF,seval]
  exact next2 (p+1) _ ⟨by omega,Kf.2 ⟨hno,hgo2.2⟩⟩ (by omega) (Xa rfl (by simp [Xh,I]) (by simp [Xi]) (by simp [Ji]))
 have hep:FZ L R=p:=VK hp1 hno (by
  by_cases h1:p=R.length - 1
  ·exact .inl h1
  ·right
   cases he:B6 L R p with
   | true=>rfl
   | false=>exact absurd ⟨by omega,he⟩ hgo2)
 have hD:(D ++ [ES R p]) ++ Bx L (BV L R).length (BV L R)=T:=by rw [← hDT,hgo,hep,List.append_assoc]; rfl
 have hap:=XT tC 3 (0,0,0) D (ES R p) (by omega)
 have hcs:Z9 L (R.length - 1) (R.eraseIdx p)=BV L R:=by unfold BV; rw [hep]
 rw [hcs] at cc
 have hDn:(D ++ [ES R p]).length=D.length+1:=by simp
 have nx:=next (D ++ [ES R p],BV L R)
 rw [List.length_append,List.length_singleton] at nx
 have htr:tC (ES R p)=[I (nr R (p+R.length - 1)),I (R.getD p 0:Nat),I (nr R (p+R.length+1))]:=rfl
 have hone:=Pe (ES R p)
 rw [htr] at hap hone
 generalize D ++ [ES R p]=D2 at *
 generalize BV L R=R2 at *
 generalize nr R (p+R.length - 1)=a at *
 generalize nr R (p+R.length+1)=c at *
 generalize R.getD p 0=b at *
 clear hgo hcs htr
 have bR:∀ a∈[AV.ref 0 0 0,I p],JJ 2 a:=fun a ha=>by
  simp only [List.mem_cons,List.not_mem_nil,or_false] at ha
  rcases ha with rfl | rfl
  ·have:JJ 2 (.ref 0 0 0)=True:=by simp [Xv]
   exact this▸trivial
  ·exact X6 (X9 _)
 refine X0 1000 ?_
 by_cases hl:p<R.length - 1
 have he:B6 L R p=true:=by
  cases he:B6 L R p with
  | true=>rfl
  | false=>exact absurd ⟨hl,he⟩ hgo2
 simp (disch:=omega) only [Ji,List.cons_append,List.nil_append,wD,↓X2,wF,seval]
 refine JI ce rfl ⟨IA,QL (X9 _) rfl,trivial⟩ (As _) ?_
 simp (disch:=omega) only [he,Ji,List.cons_append,List.nil_append,wD,↓X2,wF,seval]
 rotate_left
 simp (disch:=omega) only [Ji,List.cons_append,List.nil_append,wD,↓X2,wF,seval]
 all_goals
  refine CK (H1:=LV L N R) (H1':=LV L N R2) (rest:=[.row D.length (D.length*3) (Xs tC 3 (0,0,0) D)]) rfl cc rfl rfl bR (fun o ho=>((KB L N R).2 o ho).1) (fun o ho=>((KB L N _).2 o ho).2.1) (fun o ho=>((KB L N _).2 o ho).2.1) (QZ (fun o ho=>((KB L N _).2 o ho).2.2) (fun o ho=>((KB L N _).2 o ho).2.2)) (Q0 _) ?_
  simp (disch:=omega) only [Ji,List.cons_append,List.nil_append,wD,↓X2,wF,seval]
  exact ⟨hone,nx _ ⟨b1,b2,b3,by show D.length+1+R2.length≤L.length; omega,hD⟩ (by show R2.length<R.length; omega) (Xa rfl (by simp [Xh]) (by simp [Xi]) (by rw [← hap]; simp [Ji,I]))⟩
theorem nF (L:List V2) (R:List Nat) (p k:Nat) (h:Rok L R) (hp:p<R.length) (hs:Q3 L k) (hk:k≤10000):Fn Tryz.prog 277 [Xp L,cO R,I p] (.bool (B6 L R p)):=by
 have c1:=SG L R p k h hp hs hk
 have c2:=ED R p (-1) (p+R.length - 1) h.pos h.len (by have:=h.pos; omega) (by have:=h.len; omega) (by omega) (by omega)
 have c3:=ED R p 1 (p+R.length+1) h.pos h.len (by omega) (by have:=h.len; omega) (by omega) (by omega)
 obtain ⟨h0,hn,hmem,hL⟩:=h
 have m1:=hmem ((p+R.length - 1) % R.length)
 have m2:=hmem ((p+R.length+1) % R.length)
 have m3:=hmem p
 change nr R (p+R.length - 1)<L.length at m1
 change nr R (p+R.length+1)<L.length at m2
 have hear:B6 L R p=decide (0<Hp L R p∧∀ j,j<R.length→AM L (nr R (p+R.length - 1)) (R.getD p 0) (nr R (p+R.length+1)) (R.getD j 0)):=rfl
 generalize B6 L R p=E at *
 generalize Hp L R p=S at *
 generalize nr R (p+R.length - 1)=a at *
 generalize nr R (p+R.length+1)=c at *
 have v2:=Bg R p
 generalize R.getD p 0=b at *
 have f1:((p:Int)<R.length)=True:=eq_true (by omega)
 have f2:(p<R.length)=True:=eq_true hp
 have f3:(p+1≤R.length)=True:=eq_true (by omega)
 have a1:((a:Int)<L.length)=True:=eq_true (by omega)
 have a2:(a<L.length)=True:=eq_true m1
 have a3:(a*8+8≤L.length*8)=True:=eq_true (by omega)
 have b1:((b:Int)<L.length)=True:=eq_true (by omega)
 have b2:(b<L.length)=True:=eq_true m3
 have b3:(b*8+8≤L.length*8)=True:=eq_true (by omega)
 have e1:((c:Int)<L.length)=True:=eq_true (by omega)
 have e2:(c<L.length)=True:=eq_true m2
 have e3:(c*8+8≤L.length*8)=True:=eq_true (by omega)
 have va:=vF L a
 have vb:=vF L b
 have vc:=vF L c
 refine Fq Tryz.call277 Tryz.func277 12 [] [] [] (by simp [Xf,ZZ,X9]) (X0 1000 ?_)
 simp only [AS.start,QK,X5,X4,↓X2,wF,seval]
 refine X1 c1 rfl ?_
 by_cases hS:S≤0
 ·have g1:(S≤0)=True:=eq_true hS
  have hE:E=false:=by rw [hear]; exact decide_eq_false fun hh=>by omega
  simp only [QK,X5,X4,g1,↓X2,wF,seval]
  exact Xt (v:=.bool false) rfl rfl (X3 _) (by rw [hE])
 have g1:(S≤0)=False:=eq_false hS
 simp only [QK,X5,X4,g1,↓X2,wF,seval]
 refine X1 c2 rfl ?_
 simp only [QK,X5,X4,Xn,f1,f2,f3,v2,Int.toNat_natCast,↓X2,wF,seval]
 refine X1 c3 (by simp only [QK,X4,Xn]; rfl) ?_
 simp only [QK,X5,X4,Xn,↓X2,wF,seval]
 have sA:=hs a
 have sB:=hs b
 have sC:=hs c
 generalize hA:L.getD a v0=A at *
 generalize hB:L.getD b v0=B at *
 generalize hC:L.getD c v0=C at *
 have hfree:∀ q,AM L a b c q=(q=a∨q=c∨q=b∨¬ cM A B C (L.getD q v0)):=fun q=>by unfold AM; rw [hA,hB,hC]
 refine Xg (fun j:Nat=>⟨12,[],[Xp L,.any,.any,.any,.ref 0 0 0,.any,.any,I a,I b,I c,I j,.any],[],[.row 0 1 (Xo [X8 (zs R)])]⟩) (fun j=>j≤R.length∧∀ i,i<j→AM L a b c (R.getD i 0)) (fun j=>R.length - j) 0 ⟨by omega,fun i hi=>absurd hi (Nat.not_lt_zero i)⟩
  (Xa rfl (by simp [Xh,X5,X4,Xn,I]) (by simp [Xi]) (by simp [X4,Xn])) ?_
 rintro j ⟨hj,hno⟩ next
 have w1:=wj j (by omega)
 by_cases hj2:j<R.length
 rotate_left
 ·obtain rfl:j=R.length:=by omega
  have hE:E=true:=by rw [hear]; exact decide_eq_true ⟨by omega,hno⟩
  refine X0 1000 ?_
  simp only [X5,X4,Xn,Int.lt_irrefl,Nat.lt_irrefl,↓X2,wF,seval]
  exact Xt (v:=.bool true) rfl rfl (X3 _) (by rw [hE])
 have k1:((j:Int)<R.length)=True:=eq_true (by omega)
 have k2:(j<R.length)=True:=eq_true hj2
 have k3:(j+1≤R.length)=True:=eq_true (by omega)
 have v3:=Bg R j
 have m4:=hmem j
 have nx:=next (j+1)
 have hgo:=fun hfr=>Kf.2 (show (∀ i,i<j→AM L a b c (R.getD i 0))∧AM L a b c (R.getD j 0) from ⟨hno,hfr⟩)
 have hstop:¬ AM L a b c (R.getD j 0)→E=false:=fun hb=>by rw [hear]; exact decide_eq_false fun hh=>hb (hh.2 j hj2)
 rw [hfree] at hgo hstop
 generalize R.getD j 0=q at *
 have sQ:=hs q
 have x1:((q:Int)<L.length)=True:=eq_true (by omega)
 have x2:(q<L.length)=True:=eq_true m4
 have x3:(q*8+8≤L.length*8)=True:=eq_true (by omega)
 have vq:=vF L q
 generalize hQ:L.getD q v0=Q at *
 have cin:=rP A B C Q (by unfold vs; omega) (by unfold vs; omega) (by unfold vs; omega) (by unfold vs; omega)
 by_cases q1:q=a
 ·have g1:((q:Int)=(a:Int))=True:=eq_true (by omega)
  refine X0 1000 ?_
  simp only [X5,X4,Xn,w1,k1,k2,k3,v3,g1,Int.toNat_natCast,↓X2,wF,seval]
  exact nx _ ⟨by omega,hgo (.inl q1)⟩ (by omega) (Xa rfl (by simp [Xh,X5,X4,Xn,I]) (by simp [Xi]) (by simp [X4,Xn]))
 have g1':((q:Int)=(a:Int))=False:=eq_false (by omega)
 by_cases q3:q=b
 ·have g3:((q:Int)=(b:Int))=True:=eq_true (by omega)
  refine X0 1000 ?_
  simp only [X5,X4,Xn,w1,k1,k2,k3,v3,g1',g3,Int.toNat_natCast,↓X2,wF,seval]
  exact nx _ ⟨by omega,hgo (.inr (.inr (.inl q3)))⟩ (by omega) (Xa rfl (by simp [Xh,X5,X4,Xn,I]) (by simp [Xi]) (by simp [X4,Xn]))
 have g3':((q:Int)=(b:Int))=False:=eq_false (by omega)
 by_cases q2:q=c
 ·have g2:((q:Int)=(c:Int))=True:=eq_true (by omega)
  refine X0 1000 ?_
  simp only [X5,X4,Xn,w1,k1,k2,k3,v3,g1',g3',g2,Int.toNat_natCast,↓X2,wF,seval]
  exact nx _ ⟨by omega,hgo (.inr (.inl q2))⟩ (by omega) (Xa rfl (by simp [Xh,X5,X4,Xn,I]) (by simp [Xi]) (by simp [X4,Xn]))
 have g2':((q:Int)=(c:Int))=False:=eq_false (by omega)
 refine X0 1000 ?_
 simp only [X5,X4,Xn,w1,k1,k2,k3,v3,g1',g3',g2',a1,a2,a3,b1,b2,b3,e1,e2,e3,x1,x2,x3,va,vb,vc,vq,Int.toNat_natCast,↓X2,wF,seval]
 refine X1 cin rfl ?_
 by_cases hin:cM A B C Q
 ·have hE:E=false:=hstop (by
   rintro (e | e | e | e)
   ·exact q1 e
   ·exact q2 e
   ·exact q3 e
   ·exact e hin)
  simp only [decide_eq_true hin,↓X2,wF,seval]
  exact Xt (v:=.bool false) rfl rfl (X3 _) (by rw [hE])
 ·simp only [decide_eq_false hin,X5,X4,Xn,w1,↓X2,wF,seval]
  exact nx _ ⟨by omega,hgo (.inr (.inr (.inr hin)))⟩ (by omega) (Xa rfl (by simp [Xh,X5,X4,Xn,I]) (by simp [Xi]) (by simp [X4,Xn]))
theorem jQ (n:Nat) (hn:n<1000000):Fn Tryz.prog 276 [I n] (cO (List.range n)):=by
 refine Fq Tryz.call276 Tryz.func276 5 [] [] [] (by simp [X9]) (X0 1000 ?_)
 simp only [AS.start,↓X2,wF,seval]
 refine Xg (fun i:Nat=>⟨5,[],[I n,.any,.ref 0 0 0,.ref 1 0 0,I i],[],[.row 0 1 (Xo [.sl 0 0 (fun _=>.any) true]),.row 0 1 (Xo [.osl 2 i 1 0 i]),.row i i (Qa I 0 (zs (List.range i)))]⟩) (fun i=>i≤n) (fun i=>n - i) 0 (by omega)
  (Sub.trans (Qr 1 1 (fun _=>.sl 0 0 (fun _=>.any) true) rfl (Nat.le_refl _) (fun j hj=>by have e:j=0:=Nat.lt_one_iff.1 hj; subst e; rfl)) ((BR 1 1 (Qa I 0 []) rfl 1 (Nat.le_refl _)).trans ((Qr 1 1 (Xo [.osl 2 0 1 0 0]) rfl (Nat.le_refl _) (fun j hj=>by have e:j=0:=Nat.lt_one_iff.1 hj; subst e; rfl)).trans (Xa rfl (by simp [Xh,I]) (by simp [Xi]) (by simp [zs]))))) ?_
 intro i hi next
 have w1:=wj i (by omega)
 by_cases hi2:i<n
 rotate_left
 ·obtain rfl:i=n:=by omega
  refine X0 1000 ?_
  simp only [Int.lt_irrefl,Nat.lt_irrefl,↓X2,wF,seval]
  have hz:=EN (l:=zs (List.range i)) (H:=[.row 0 1 (Xo [.osl 2 i 1 0 i]),.row 0 1 (Xo [.osl 2 i 1 0 i]),.row i i (Qa I 0 (zs (List.range i)))]) (id:=2) (ver:=i) (n:=i) rfl (by rw [Xn,List.length_range]; exact Nat.le_refl _)
  rw [Xn,List.length_range] at hz
  exact BN (v:=.agg [.osl 2 i 1 0 i]) rfl (by simp [AS.get,JG,OJ,rd,Qp,Xo,A8]) (ZD ⟨hz,trivial⟩)
 have f1:((i:Int)<n)=True:=eq_true (by omega)
 have nx:=next (i+1)
 rw [Fa] at nx
 have hz:(zs (List.range i)).length=i:=by rw [Xn,List.length_range]
 generalize zs (List.range i)=Z at *
 have hap:=CJ Z (i:Int)
 rw [hz] at hap
 refine X0 1000 ?_
 simp only [w1,f1,Int.toNat_natCast,↓X2,wF,seval]
 exact ⟨⟨by omega,by omega⟩,nx _ (by omega) (by omega) (Xa rfl (by simp [Xh,I]) (by simp [Xi]) (by rw [← hap]))⟩
theorem Rq {L:List V2} {R:List Nat} {p:Nat} (h1:p≤R.length) (h2:∀ j,j<p→Hp L R j≠0) (h3:p=R.length∨Hp L R p=0):KP L R=p:=by
 have hle:=Lk L R
 rcases Nat.lt_trichotomy (KP L R) p with h | h | h
 ·exact absurd (Nh (by omega)) (h2 _ h)
 ·exact h
 ·rcases h3 with h3 | h3
  ·omega
  ·exact absurd h3 (Ll h)
theorem qB {L:List V2} {R:List Nat} (h3:3<R.length) (hq:KP L R<R.length):Z9 L R.length R=Z9 L (R.eraseIdx (KP L R)).length (R.eraseIdx (KP L R)):=by
 rw [List.length_eraseIdx,if_pos hq]
 cases hl:R.length with
 | zero=>omega
 | succ n =>
  show (if 3<R.length∧KP L R<R.length then Z9 L n (R.eraseIdx (KP L R)) else R)=_
  rw [if_pos ⟨h3,hq⟩]; rfl
theorem VB {L:List V2} {R:List Nat} (h:¬ (3<R.length∧KP L R<R.length)):Z9 L R.length R=R:=by
 cases hl:R.length with
 | zero=>rfl
 | succ n=>unfold Z9; rw [if_neg h]
theorem U7 (L:List V2) (R0:List Nat) (k:Nat) (h:Rok L R0) (hs:Q3 L k) (hk:k≤10000):Fn Tryz.prog 279 [Xp L,cO R0] (cO (Z9 L R0.length R0)):=by
 refine Fq Tryz.call279 Tryz.func279 6 [] [] [] (by simp [Xf,ZZ]) (X0 1000 ?_)
 simp only [AS.start,QK,X4,X5,↓X2,wF,seval]
 refine Xg (fun w:List Nat×Nat=>⟨6,[],[Xp L,.any,.any,.ref 0 0 0,.ref 1 0 0,I w.2],[],[.row 0 1 (Xo [X8 (zs w.1)]),.row 0 1 (Xo [.sl 0 0 (fun _=>.any) true])]⟩) (fun w=>Rok L w.1∧w.2≤w.1.length∧(∀ j,j<w.2→Hp L w.1 j≠0)∧Z9 L w.1.length w.1=Z9 L R0.length R0) (fun w=>2000000*w.1.length+(1000000 - w.2)) (R0,0) ⟨h,Nat.zero_le _,fun j hj=>absurd hj (Nat.not_lt_zero j),rfl⟩
  (Sub.trans (Qr 1 1 (Xo [.sl 0 0 (fun _=>.any) true]) rfl (Nat.le_refl _) (fun j hj=>by have e:j=0:=Nat.lt_one_iff.1 hj; subst e; rfl)) (Xa rfl (by simp [Xh,X5,I]) (by simp [Xi]) (by simp [X4,Xn]))) ?_
 rintro ⟨R,p⟩ ⟨hR,hp,hno,hcl⟩ next
 replace hR:Rok L R:=hR
 replace hp:p≤R.length:=hp
 replace hno:∀ j,j<p→Hp L R j≠0:=hno
 replace hcl:Z9 L R.length R=Z9 L R0.length R0:=hcl
 have hn:=hR.len
 have w1:=wj p (by omega)
 by_cases hgo:3<R.length∧p<R.length
 rotate_left
 ·have e:Z9 L R.length R=R:=by
   by_cases h3:3<R.length
   ·exact VB fun hh=>by rw [Rq hp hno (.inl (by omega))] at hh; omega
   ·exact VB fun hh=>h3 hh.1
  rw [e] at hcl
  rw [← hcl]
  have fin:∀ {s:AS},s.get 4=.ref 1 0 0→s.h=[.row 0 1 (Xo [X8 (zs R)]),.row 0 1 (Xo [X8 (zs R)])]→RetOk (QI Tryz.prog Tryz.f279 [] [] (cO R)) s:=fun h1 h2=>by
   refine BN (v:=.agg [X8 (zs R)]) rfl ?_ ?_
   ·rw [h1,h2]; simp [JG,OJ,rd,Qp,Xo,A8]
   ·exact (ZZ R).sees _
  by_cases h3:3<R.length
  ·obtain rfl:p=R.length:=by omega
   have f1:((3:Int)<R.length)=True:=eq_true (by omega)
   refine X0 1000 ?_
   simp only [X5,X4,Xn,f1,Int.lt_irrefl,Nat.lt_irrefl,↓X2,wF,seval]
   exact fin rfl (by simp [X4,Xn])
  ·have f1:((3:Int)<R.length)=False:=eq_false (by omega)
   refine X0 1000 ?_
   simp only [X5,X4,Xn,f1,↓X2,wF,seval]
   exact fin rfl (by simp [X4,Xn])
 obtain ⟨h3,hp2⟩:=hgo
 have cs:=SG L R p k hR hp2 hs hk
 have cw:=Ml R p hn (by omega)
 rw [QK,X4,Xn] at cs cw
 have f1:((3:Int)<R.length)=True:=eq_true (by omega)
 have f2:((p:Int)<R.length)=True:=eq_true (by omega)
 by_cases hz:Hp L R p=0
 ·have g1:(Hp L R p=0)=True:=eq_true hz
  have hf:=Rq hp hno (.inr hz)
  have hg:=qB (L:=L) h3 (by rw [hf]; exact hp2)
  rw [hf,hcl] at hg
  have hl:(R.eraseIdx p).length=R.length - 1:=by rw [List.length_eraseIdx,if_pos hp2]
  have nx:=next (R.eraseIdx p,0)
  refine X0 1000 ?_
  simp only [X5,X4,Xn,f1,f2,w1,↓X2,wF,seval]
  refine X1 cs rfl ?_
  simp only [X5,X4,Xn,g1,↓X2,wF,seval]
  refine X1 cw rfl ?_
  simp only [QK,X5,X4,Xn,↓X2,wF,seval]
  exact nx _ ⟨Bu hR h3 hp2,Nat.zero_le _,fun j hj=>absurd hj (Nat.not_lt_zero j),hg.symm⟩ (by show 2000000*(R.eraseIdx p).length+(1000000 - 0)<2000000*R.length+(1000000 - p); omega) (Xa rfl (by simp [Xh,X5,I]) (by simp [Xi]) (by simp [X4,Xn]))
 ·have g1:(Hp L R p=0)=False:=eq_false hz
  have nx:=next (R,p+1)
  refine X0 1000 ?_
  simp only [X5,X4,Xn,f1,f2,w1,↓X2,wF,seval]
  refine X1 cs rfl ?_
  simp only [X5,X4,Xn,g1,w1,↓X2,wF,seval]
  exact nx _ ⟨hR,hp2,fun j hj=>by
    rcases Nat.lt_succ_iff_lt_or_eq.1 hj with h | h
    ·exact hno j h
    ·exact h▸hz,hcl⟩ (by show 2000000*R.length+(1000000 - (p+1))<2000000*R.length+(1000000 - p); omega) (Xa rfl (by simp [Xh,X5,I]) (by simp [Xi]) (by simp [X4,Xn]))
end
end Go.Ab.N
