/- Contracts of functions of these chapters, for every argument that fits, and what they need. -/
import Derived.Test.YtefjhgcndhepeaaGreatC10
import Derived.Shelf.SlicesE.Delete
import Derived.Test.YtefjhgcndhepeaaGreatC3
import Derived.Test.YtefjhgcndhepeaaGreatC6
set_option linter.unusedSimpArgs false
set_option linter.unusedVariables false
open Nat renaming reducePow → Y1, reduceLT → Y2, reduceLeDiff → Y3, reduceEqDiff → Y4, reduceAdd → Y5, reduceMul → Y6, reduceSub → Y7, reduceBEq → Y8, reduceDiv → Y9, reduceMod → YA
namespace Go.Ab.N
open Go Go.RowKit Go.Proofs
noncomputable section
set_option maxRecDepth 10000
set_option maxHeartbeats 4000000
open Classical
noncomputable def kM (A B:List (List V2)) (e:Rat) (n:Nat):V2:=(A2 (A.getD (n / B.length) []) (B.getD (n % B.length) []) e).1
noncomputable def Cy (A B:List (List V2)) (e:Rat) (n:Nat):List V2:=(List.range n).map (kM A B e)
theorem ep (A B:List (List V2)) (e:Rat) (n:Nat):(Cy A B e n).length=n:=by unfold Cy; rw [List.length_map,List.length_range]
theorem Yc (A B:List (List V2)) (e:Rat) (n:Nat):Cy A B e (n+1)=Cy A B e n ++ [kM A B e n]:=by unfold Cy; rw [List.range_succ,List.map_append]; rfl
theorem kN (A B:List (List V2)) (e:Rat) (i k:Nat) (hk:k<B.length):kM A B e (i*B.length+k)=(A2 (A.getD i []) (B.getD k []) e).1:=by
 unfold kM
 rw [show i*B.length+k=k+B.length*i by rw [Nat.mul_comm,Nat.add_comm],Nat.add_mul_div_left _ _ (by omega),Nat.add_mul_mod_self_left,Nat.div_eq_of_lt hk,Nat.mod_eq_of_lt hk,Nat.zero_add]
def FF (e:Rat) (W:List V2):List AO:=[.row 0 4 (Xk (qC e)),.row 0 1 (Xk [.sl 0 0 (fun _=>.any) true]),.row 0 1 (Xk [.bool false]),.row 0 1 (Xk [.osl 4 W.length 8 0 W.length]),.row W.length (W.length*8) (Xt vC 8 v0 W)]
theorem HG (e:Rat) (W:List V2):FF e W=[.row 0 4 (Xk (qC e)),.row 0 1 (Xk [.sl 0 0 (fun _=>.any) true]),.row 0 1 (Xk [.bool false]),.row 0 1 (Xk [.osl 4 W.length 8 0 W.length]),.row W.length (W.length*8) (Xt vC 8 v0 W)]:=nrfl rfl
theorem Nm (e:Rat) (W:List V2):On 5 (FF e W):=by
 have hvc:∀ a:V2,∀ x∈vC a,Settled x:=fun a=>by simp [vC,X8,X2]
 refine ⟨rfl,fun o ho=>?_⟩
 simp only [FF,List.mem_cons,List.not_mem_nil,or_false] at ho
 rcases ho with rfl | rfl | rfl | rfl | rfl
 ·exact ⟨by simp [qC,XA],by simp,by simp⟩
 ·exact ⟨by simp [XA],by simp,by simp⟩
 ·exact ⟨by simp [XA],by simp,by simp⟩
 ·exact ⟨by simp [XA],by simp,by simp⟩
 ·exact ⟨fun j _=>X7 (Xe (hvc _) _),by simp,by simp⟩
theorem oc {p:Nat→Prop}:∀ n,p n→∃ n,p n∧∀ m,m<n→¬ p m:=by
 intro n
 induction n using Nat.strongRecOn with
 | ind n ih =>
  intro h
  by_cases hm:∃ m,m<n∧p m
  ·obtain ⟨m,h1,h2⟩:=hm
   exact ih m h1 h2
  ·exact ⟨n,h,fun m hm' hp=>hm ⟨m,hm',hp⟩⟩
def Wm (e:Rat) (W:List V2):List AO:=[.row 0 4 (Xk (qC e)),.row 0 1 (Xk [.sl 0 0 (fun _=>.any) false]),.row 0 1 (Xk [.bool false]),.row 0 1 (Xk [.osl 4 W.length 8 0 W.length]),.row W.length (W.length*8) (Xt vC 8 v0 W)]
theorem OG (e:Rat) (W:List V2):Wm e W=[.row 0 4 (Xk (qC e)),.row 0 1 (Xk [.sl 0 0 (fun _=>.any) false]),.row 0 1 (Xk [.bool false]),.row 0 1 (Xk [.osl 4 W.length 8 0 W.length]),.row W.length (W.length*8) (Xt vC 8 v0 W)]:=nrfl rfl
theorem Uu (e:Rat) (W:List V2):On 5 (Wm e W):=by
 have hvc:∀ a:V2,∀ x∈vC a,Settled x:=fun a=>by simp [vC,X8,X2]
 refine ⟨rfl,fun o ho=>?_⟩
 simp only [Wm,List.mem_cons,List.not_mem_nil,or_false] at ho
 rcases ho with rfl | rfl | rfl | rfl | rfl
 ·exact ⟨by simp [qC,XA],by simp,by simp⟩
 ·exact ⟨by simp [XA],by simp,by simp⟩
 ·exact ⟨by simp [XA],by simp,by simp⟩
 ·exact ⟨by simp [XA],by simp,by simp⟩
 ·exact ⟨fun j _=>X7 (Xe (hvc _) _),by simp,by simp⟩
theorem SJ {A B:List (List V2)} {e:Rat} (h:Cu A B e=false):∃ i k,i<A.length∧k<B.length∧Zs A B e i k=false∧∀ j l,(j<i∨j=i∧l<k)→l<B.length→Zs A B e j l=true:=by
 have h1:¬ ∀ i,i<A.length→Nn A B e i=true:=fun H=>by
  have:Cu A B e=true:=decide_eq_true H
  rw [h] at this; cases this
 have h2:∃ i,i<A.length∧Nn A B e i=false:=by
  apply Classical.byContradiction
  intro H
  refine h1 fun i hi=>?_
  cases hp:Nn A B e i with
  | true=>rfl
  | false=>exact absurd ⟨i,hi,hp⟩ H
 obtain ⟨i',hi'⟩:=h2
 obtain ⟨i,⟨hi,hp⟩,hmin⟩:=oc (p:=fun i=>i<A.length∧Nn A B e i=false) i' hi'
 have h4:∃ k,k<B.length∧Zs A B e i k=false:=by
  apply Classical.byContradiction
  intro H
  have:Nn A B e i=true:=decide_eq_true fun k hk=>by
   cases hq:Zs A B e i k with
   | true=>rfl
   | false=>exact absurd ⟨k,hk,hq⟩ H
  rw [hp] at this; cases this
 obtain ⟨k',hk'⟩:=h4
 obtain ⟨k,⟨hk,hq⟩,hmin2⟩:=oc (p:=fun k=>k<B.length∧Zs A B e i k=false) k' hk'
 refine ⟨i,k,hi,hk,hq,fun j l hjl hl=>?_⟩
 cases hv:Zs A B e j l with
 | true=>rfl
 | false =>
  rcases hjl with hj | ⟨rfl,hlk⟩
  ·exact absurd ⟨by omega,jI hl hv⟩ (hmin j hj)
  ·exact absurd ⟨hl,hv⟩ (hmin2 l hlk)
theorem jA (A B:List (List V2)) (e:Rat) (c:Nat) (ha:∀ i,i<A.length→Shp c (A.getD i [])) (hb:∀ i,i<B.length→Shp c (B.getD i [])) (h1:1≤c) (hc:c≤1000) (he:qb e≤10000) (la:A.length≤1000) (lb:B.length≤1000) :
  Fn Tryz.prog 201 [Uh A,Uh B,qA e] (.tup [.any,.bool (Cu A B e)]):=by
 have cp:=gI A B
 obtain ⟨R,hR⟩:∃ R,R=Cu A B e:=⟨_,rfl⟩
 rw [← hR]
 have s15:Settled (.fn 260 [Z3 A,Z3 B]):=Jw (by
  intro a ha
  simp only [List.mem_cons,List.not_mem_nil,or_false] at ha
  rcases ha with rfl | rfl <;> exact Fm _)
 refine Fq Tryz.call201 Tryz.func201 13 [16,17] [] [] (by simp [Aa,Xa]) (Xi ?_)
 simp only [AS.start,XT,↓X1,wF,seval]
 refine X0 cp rfl ?_
 simp only [XT,↓X1,wF,seval]
 refine Run.sub (s':=⟨13,[16,17],[.any,.any,.any,.any,.any,.ref 0 0 0,.ref 1 0 0,.ref 2 0 0,.ref 3 0 0,.any,.any,.any,.any],[(15,.fn 260 [Z3 A,Z3 B])],FF e []⟩) ?_ ((Jh 3 1 (fun _=>.sl 0 0 (fun _=>.any) true) rfl (Nat.le_refl _) (fun j hj=>by have e:j=0:=Nat.lt_one_iff.1 hj; subst e; rfl)).trans ((Ew 3 8 (Xt vC 8 v0 []) rfl 1 (Nat.le_refl _)).trans ((Jh 3 1 (Xk [.osl 4 0 8 0 0]) rfl (Nat.le_refl _) (fun j hj=>by have e:j=0:=Nat.lt_one_iff.1 hj; subst e; rfl)).trans (Xf rfl (by simp [Xg]) (by simp [Xn,Xr]) (by simp [FF,qC,X4])))))
 have hb1:∀ i k,i<A.length→k<B.length→i*B.length+k<1000*1000:=fun i k hi hk=>by
  have h2:i*B.length+B.length≤A.length*B.length:=by rw [← Nat.succ_mul]; exact Nat.mul_le_mul_right _ hi
  have h3:A.length*B.length≤1000*1000:=Nat.mul_le_mul la lb
  omega
 have hN:∃ N,(R=true∧N=A.length*B.length∧∀ i k,i<A.length→k<B.length→Zs A B e i k=true)∨(R=false∧∃ i0 k0,N=i0*B.length+k0∧i0<A.length∧k0<B.length∧Zs A B e i0 k0=false∧∀ j l,(j<i0∨j=i0∧l<k0)→l<B.length→Zs A B e j l=true):=by
  cases hq:Cu A B e with
  | true =>
   have h2:=of_decide_eq_true hq
   exact ⟨_,.inl ⟨hR.trans hq,rfl,fun i k hi hk=>of_decide_eq_true (h2 i hi) k hk⟩⟩
  | false =>
   obtain ⟨i0,k0,g1,g2,g3,g4⟩:=SJ hq
   exact ⟨_,.inr ⟨hR.trans hq,i0,k0,rfl,g1,g2,g3,g4⟩⟩
 obtain ⟨N,hN⟩:=hN
 refine D9 R (gf:=260) (caps:=[Z3 A,Z3 B]) (Hn:=cond R (FF e (Cy A B e N)) (Wm e (Cy A B e N))) rfl rfl rfl (fun t ht=>?_) ?_
 ·have yT:∀ i k,i<A.length→k<B.length→Zs A B e i k=true→YCall Tryz.prog t [Xw (A.getD i []),Xw (B.getD k [])] (FF e (Cy A B e (i*B.length+k))) (.bool true) (FF e (Cy A B e (i*B.length+k+1))):=fun i k hi hk hp=>by
   have cf:=Oy (A.getD i []) (B.getD k []) e c (ha i hi) (hb k hk) h1 hc he
   rw [show (A2 (A.getD i []) (B.getD k []) e).2=true from hp] at cf
   have hd:=kN A B e i k hk
   have hlt:=hb1 i k hi hk
   have hs:=Yc A B e (i*B.length+k)
   have hl:=ep A B e (i*B.length+k)
   rw [hs,hd]
   generalize Cy A B e (i*B.length+k)=W at *
   generalize (A2 (A.getD i []) (B.getD k []) e).1=d at *
   have hap:=QR vC 8 v0 W d (by omega)
   refine Do (str:=[]) (hcs:=[]) ht mixed (by kernel_rfl) (by kernel_rfl) rfl (fun p hp=>?_) (fun o ho=>((Nm e _).2 o ho).1) (fun l r hr=>?_)
   ·have hp':p=16∨p=17:=by simpa using hp
    rcases hp' with rfl | rfl <;> exact Nat.le_of_ble_eq_true rfl
   show Run _ _ ⟨13,[16,17],[.any,.any,.any,.any,.any,.ref 0 0 0,.ref 1 0 0,.ref 2 0 0,.ref 3 0 0,.any,.any,.any,.any],[(17,Xw (B.getD k [])),(16,Xw (A.getD i [])),(15,.fn 260 [Z3 A,Z3 B])],FF e W⟩
   refine Xi ?_
   simp only [HG,↓X1,wF,seval]
   refine Ed hr ?_
   refine Xi ?_
   simp only [↓X1,wF,seval]
   refine X0 cf rfl ?_
   simp only [↓X1,wF,seval]
   refine ⟨⟨Gc _,by omega,by omega⟩,my ?_⟩
   rw [List.length_append,List.length_singleton,← hap]
   rfl
  have hce:t.ce.H.length≤5:=by rw [ht.ch]; exact Nat.le_refl _
  rcases hN with ⟨rfl,rfl,hall⟩ | ⟨rfl,i0,k0,rfl,hi0,hk0,hno,hyes⟩
  ·exact TK A B t 5 (fun n=>FF e (Cy A B e n)) la lb (fun n=>Nm _ _) hce fun i k hi hk=>yT i k hi hk (hall i k hi hk)
  ·refine YT A B t 5 (fun n=>FF e (Cy A B e n)) (Wm e (Cy A B e (i0*B.length+k0))) la lb (fun n=>Nm _ _) hce i0 k0 hi0 hk0 (fun i k h hk=>yT i k (by omega) hk (hyes i k h hk)) ?_ (Uu _ _)
   have cf:=Oy (A.getD i0 []) (B.getD k0 []) e c (ha i0 hi0) (hb k0 hk0) h1 hc he
   rw [show (A2 (A.getD i0 []) (B.getD k0 []) e).2=false from hno] at cf
   generalize Cy A B e (i0*B.length+k0)=W at *
   generalize (A2 (A.getD i0 []) (B.getD k0 []) e).1=d at *
   refine Lb false (str:=[]) (hcs:=[]) ht mixed (by kernel_rfl) (by kernel_rfl) rfl (fun p hp=>?_) (fun o ho=>((Uu e _).2 o ho).1) (fun l r hr=>?_)
   ·have hp':p=16∨p=17:=by simpa using hp
    rcases hp' with rfl | rfl <;> exact Nat.le_of_ble_eq_true rfl
   show Run (To _ _ _ _ _ _ _ _) _ ⟨13,[16,17],[.any,.any,.any,.any,.any,.ref 0 0 0,.ref 1 0 0,.ref 2 0 0,.ref 3 0 0,.any,.any,.any,.any],[(17,Xw (B.getD k0 [])),(16,Xw (A.getD i0 [])),(15,.fn 260 [Z3 A,Z3 B])],FF e W⟩
   refine Xi ?_
   simp only [HG,OG,↓X1,wF,seval]
   refine Tp hr ?_
   refine Xi ?_
   simp only [↓X1,wF,seval]
   refine X0 cf rfl ?_
   simp only [↓X1,wF,seval]
   exact ve rfl
 ·rcases hN with ⟨rfl,rfl,hall⟩ | ⟨rfl,i0,k0,rfl,hi0,hk0,hno,hyes⟩
  ·show Run _ _ ⟨13,[16,17],[.any,.any,.any,.any,.any,.ref 0 0 0,.ref 1 0 0,.ref 2 0 0,.ref 3 0 0,.any,.any,.any,.any],[(15,.fn 260 [Z3 A,Z3 B])],FF e (Cy A B e (A.length*B.length))⟩
   generalize Cy A B e (A.length*B.length)=W
   show Run _ (_ :: _) _
   refine Xi ?_
   simp only [HG,↓X1,wF,seval]
   exact Kd (x:=.osl 4 W.length 8 0 W.length) (y:=.bool true) rfl (by simp only [Je,↓X1,wF,seval]) (by simp only [Je,↓X1,wF,seval]) (XN Bd (Sc _)) ((X2 _).sees _)
  ·show Run _ _ ⟨13,[16,17],[.any,.any,.any,.any,.any,.ref 0 0 0,.ref 1 0 0,.ref 2 0 0,.ref 3 0 0,.any,.any,.any,.any],[(15,.fn 260 [Z3 A,Z3 B])],Wm e (Cy A B e (i0*B.length+k0))⟩
   generalize Cy A B e (i0*B.length+k0)=W
   show Run _ (_ :: _) _
   refine Xi ?_
   simp only [OG,↓X1,wF,seval]
   exact Kd (x:=.sl 0 0 (fun _=>.any) false) (y:=.bool false) rfl (by simp only [Je,↓X1,wF,seval]) (by simp only [Je,↓X1,wF,seval]) (XN Bd (Sc _)) ((X2 _).sees _)
def vM:Go.Shelf.Ren:=⟨fun _=>290,fun t=>if t=23 then 3 else t,fun x=>x⟩
theorem tO:SlLaysE.n45 Tryz.prog vM where
 mixed:=mixed
 f45:=⟨Tryz.f290.name,rfl,Tryz.func290.trans (congrArg some rfl)⟩
 t0:=Tryz.underlying0
 a0:=Tryz.isAgg0
 z0:=Tryz.sizeOf0
 v0:=Tryz.zeroValue0
 t3:=Tryz.underlying3
 a3:=Tryz.isAgg3
 z3:=Tryz.sizeOf3
 v3:=Tryz.zeroValue3
 t4:=Tryz.underlying4
 a4:=Tryz.isAgg4
 z4:=Tryz.sizeOf4
 v4:=Tryz.zeroValue4
 t22:=Tryz.underlying22
 a22:=Tryz.isAgg22
 z22:=Tryz.sizeOf22
 v22:=Tryz.zeroValue22
 a23:=Tryz.isAgg3
 z23:=Tryz.sizeOf3
def Lv (x:Int):Value:=.int .i64 x
theorem Pw (w:World) (b:Nat) (d:Array Int) (cs:Array Value) (el:TypeId) (fr:Nat×Nat) (h:w.heap[b]?=some (.cells cs el fr)):(Go.Sort.putRow Lv w b 0 d).heap[b]?=some (.cells (Go.Sort.putCells Lv 0 d cs) el fr):=by
 show (w.heap.modify b _)[b]?=_
 rw [Array.getElem?_modify,if_pos rfl,h]
 rfl
theorem F1 (w:World) (b b':Nat) (d:Array Int) (h:b'≠b):(Go.Sort.putRow Lv w b 0 d).heap[b']?=w.heap[b']?:=by
 show (w.heap.modify b _)[b']?=_
 rw [Array.getElem?_modify,if_neg (Ne.symm h)]
theorem M5 (o:AO) (R:List Int) (v i:Nat) (hi:i<R.length):HCall Tryz.prog 290 [.osl 1 v 1 0 R.length,I i,I ((i+1:Nat):Int)] [o,.row v R.length (Q9 I 0 R)] (.osl 1 (v+1) 1 0 (R.length - 1)) [o,.row (v+1) (R.length - 1) (Q9 I 0 (R.eraseIdx i))]:=by
 refine ⟨Tryz.call290,?_⟩
 rintro c vs hH hr ⟨hv1,hv2⟩
 have ho:c.H[1]?=some (.row v R.length (Q9 I 0 R)):=by rw [hH]; rfl
 have hinf:inf c.H 1=some v:=by simp [inf,ho,AO.info]
 have live:¬ stale c.H 1 v:=by
  rintro (⟨v'',h1,hlt⟩ | hd)
  ·rw [hinf] at h1; cases h1; omega
  ·simp [inf,hd,AO.info] at hinf
 obtain ⟨l,hl⟩:∃ l,vs=l:=⟨_,rfl⟩
 have hx:=hv2 0 (by simp)
 have hy:=hv2 1 (by simp)
 have hz:=hv2 2 (by simp)
 have e3:vs=#[vs.getD 0 undef,vs.getD 1 undef,vs.getD 2 undef]:=by
  have h3:vs.size=3:=hv1
  apply Array.ext
  ·simp [h3]
  ·intro j h1 h2
   match j,h1 with
   | 0,_=>simp [Array.getD,h3]
   | 1,_=>simp [Array.getD,h3]
   | 2,_=>simp [Array.getD,h3]
   | j+3,h=>omega
 rw [e3]
 generalize vs.getD 0 undef=x at *
 generalize vs.getD 1 undef=y at *
 generalize vs.getD 2 undef=z at *
 replace hx:Rep c x (.osl 1 v 1 0 R.length):=hx
 replace hy:Rep c y (I i):=hy
 replace hz:Rep c z (I ((i+1:Nat):Int)):=hz
 cases hy
 cases hz
 generalize hn:R.length=n at hx
 cases hx with
 | oslz _ _ _ _ a h=>omega
 | oslOld _ _ _ _ _ a cap h hs=>exact absurd hs live
 | oslzOld _ _ _ _ a hs=>exact absurd hs live
 | osl _ _ _ _ _ cap b sz h1 hg hcn hcap hmx =>
  subst hn
  rcases hr.row 1 _ _ _ ho with ⟨hg',_⟩ | ⟨b',sz',cs,el,hg',hh,hcs,hks,hnS,hcr⟩
  ·rw [hg'] at hg; cases hg
  rw [hg'] at hg
  cases hg
  have hcell:∀ j,j<R.length→cs.getD j undef=Lv (R.getD j 0):=fun j hj=>by
   have:=hcr j hj
   rw [show Q9 I 0 R j=I (R.getD j 0) from rfl] at this
   generalize cs.getD j undef=q at this ⊢
   cases this; rfl
  have hget:∀ j,j<R.length→R.toArray[j]! = R.getD j 0:=fun j hj=>by
   rw [getElem!_pos R.toArray j (by simpa using hj)]
   simp [List.getD_eq_getElem?_getD,hj]
  have hold:Go.Sort.Holds Lv c.w b 0 R.toArray:=fun j hj=>by
   have hj':j<R.length:=by simpa using hj
   refine ⟨?_,?_⟩
   ·rw [Zq hh (m:=R.length) (by omega) j hj',hcell j hj',hget j hj']
   ·unfold World.frozen?
    rw [hh]
    simp
  obtain ⟨_,i0,z0,hi0,hz1,_⟩:=KW nX
  have key:=AnyE.slices_Delete tO Lv (fun _=>rfl) 0 (fun w=>Tryz.zeroValue3 w) i0 hi0 hz1 b 0 cap i (i+1) R.toArray c.w hold (by simpa using hcn) hmx (by omega) (by rw [List.size_toArray]; omega)
  rw [List.size_toArray] at key
  refine key.mono ?_
  rintro e w' ⟨rfl,q,rfl⟩
  obtain ⟨d,hd⟩:∃ d,d=(R.toArray.toList.take i ++ R.toArray.toList.drop (i+1) ++ List.replicate (i+1 - i) (0:Int)).toArray:=⟨_,rfl⟩
  rw [← hd]
  have hds:d.size=R.length:=by rw [hd]; simp; omega
  have hdj:∀ j,j<R.length - 1→d[j]! = (R.eraseIdx i).getD j 0:=fun j hj=>by
   rw [getElem!_pos d j (by omega)]
   subst hd
   simp only [List.getElem_toArray,List.getD_eq_getElem?_getD,List.getElem?_eraseIdx]
   by_cases h:j<i
   ·rw [List.getElem_append_left (by simp; omega),List.getElem_append_left (by simp; omega)]
    simp [h,show j<R.length by omega]
   ·rw [List.getElem_append_left (by simp; omega),List.getElem_append_right (by simp; omega)]
    have e1:i+1+(j - min i R.length)=j+1:=by omega
    simp [h,e1,show j+1<R.length by omega]
  have hcs2:(Go.Sort.putCells Lv 0 d cs).size=cs.size:=by simp [Go.Sort.putCells]
  have hset:(c.H.set 1 (.row (v+1) (R.length - 1) (Q9 I 0 (R.eraseIdx i))))[1]?=some (.row (v+1) (R.length - 1) (Q9 I 0 (R.eraseIdx i))):=by rw [hH]; rfl
  have hoth:∀ k,k≠1→(c.H.set 1 (.row (v+1) (R.length - 1) (Q9 I 0 (R.eraseIdx i))))[k]?=c.H[k]?:=fun k hk=>by simp [Ne.symm hk]
  have hinf':inf (c.H.set 1 (.row (v+1) (R.length - 1) (Q9 I 0 (R.eraseIdx i)))) 1=some (v+1):=by simp [inf,hset,AO.info]
  obtain ⟨g1,g2⟩:=Zv (c:=c) (c':=⟨Go.Sort.putRow Lv (Go.Sort.ahead c.w q) b 0 d,c.S,c.γ,c.H.set 1 (.row (v+1) (R.length - 1) (Q9 I 0 (R.eraseIdx i)))⟩) hr
   (id:=1) (ver:=v+1) (n:=R.length - 1) (b:=b) (sz:=sz) hset hoth rfl hg' (fun _ _=>rfl) (Pw (Go.Sort.ahead c.w q) b d cs el (0,0) hh) (hcs2.trans hcs) (by omega)
   (fun b' hb' _=>F1 (Go.Sort.ahead c.w q) b b' d hb') (by simp) rfl rfl rfl (.inr ⟨_,_,ho,rfl,hg'⟩) (.inr (.inr ⟨v,hinf,.inl (by omega)⟩)) (fun j hj=>by
    have e1:(Go.Sort.putCells Lv 0 d cs).getD j undef=Lv d[j]!:=by
     have h1:j<cs.size:=by omega
     have h2:j<d.size:=by omega
     simp [Go.Sort.putCells,Array.getD_eq_getD_getElem?,h1,h2]
    rw [e1,hdj j hj]
    exact .int _ _)
  rw [hH] at hinf' g1 g2
  rw [show R.length - (i+1 - i)=R.length - 1 by omega]
  exact ⟨_,_,_,rfl,.osl 1 (v+1) 1 0 (R.length - 1) cap b sz hinf' hg' (by omega) hcap hmx,g1,g2⟩
def zs (R:List Nat):List Int:=R.map fun n:Nat=>(n:Int)
theorem XC (R:List Nat):(zs R).length=R.length:=by unfold zs; rw [List.length_map]
theorem DY (R:List Nat) (j:Nat):(zs R).getD j 0=((R.getD j 0:Nat):Int):=by
 unfold zs
 rw [List.getD_eq_getElem?_getD,List.getElem?_map,List.getD_eq_getElem?_getD]
 cases R[j]? <;> rfl
theorem Sm (R:List Nat) (i:Nat):(zs R).eraseIdx i=zs (R.eraseIdx i):=by
 unfold zs
 apply List.ext_getElem?
 intro j
 simp only [List.getElem?_eraseIdx,List.getElem?_map]
 split <;> rfl
def jk (L:List V2) (R:List Nat):AV:=.ptr 2 (Xk [Xw L,X3 (zs R)]) 0
theorem XQ (L:List V2) (R:List Nat):jk L R=.ptr 2 (Xk [Xw L,X3 (zs R)]) 0:=nrfl rfl
theorem A9 (L:List V2) (R:List Nat):Settled (jk L R):=QF fun j hj=>by
 match j,hj with
 | 0,_=>exact Xh L
 | 1,_=>exact X8 _
 | j+2,h=>omega
def rW (L:List V2) (R:List Nat):AV:=.ptr 1 (Xk [jk L R]) 0
theorem O4 (L:List V2) (R:List Nat):rW L R=.ptr 1 (Xk [jk L R]) 0:=nrfl rfl
theorem De (L:List V2) (R:List Nat):Settled (rW L R):=QF fun j hj=>by
 obtain rfl:j=0:=by omega
 exact A9 L R
def nr (R:List Nat) (m:Nat):Nat:=R.getD (m % R.length) 0
theorem uu (R:List Nat) (m:Nat):(zs R).getD (m % R.length) 0=((nr R m:Nat):Int):=DY R _
structure Rok (L:List V2) (R:List Nat):Prop where
 pos:0<R.length
 len:R.length<1000000
 mem:∀ j,R.getD j 0<L.length
 lenL:L.length<1000000
theorem HO (L:List V2) (R:List Nat) (k:Int) (m:Nat) (h:Rok L R) (hk:k+R.length=m) (hm:m<10000000) (h1:-10≤k) (h2:k<10000000):Fn Tryz.prog 295 [I k,rW L R] (I (nr R m)):=by
 obtain ⟨h0,hn,hmem,hL⟩:=h
 refine Fq Tryz.call295 Tryz.func295 4 [] [] [] (by simp [De,X9]) (Xi ?_)
 have w1:IntKind.i64.wrap (k+R.length)=(m:Int):=by rw [IntKind.wrap_i64]; omega
 have hmod:(m:Int).tmod R.length=((m % R.length:Nat):Int):=rfl
 have hlt:m % R.length<R.length:=Nat.mod_lt _ h0
 have f1:(((m % R.length:Nat):Int)<R.length)=True:=eq_true (by omega)
 have f2:(m % R.length<R.length)=True:=eq_true hlt
 have f3:(m % R.length+1≤R.length)=True:=eq_true (by omega)
 have f6:((R.length:Int)=0)=False:=eq_false (by omega)
 have f6':(R.length=0)=False:=eq_false (by omega)
 have w2:IntKind.i64.wrap (((m % R.length:Nat):Int))=((m % R.length:Nat):Int):=by rw [IntKind.wrap_i64]; omega
 have v1:=uu R m
 simp only [AS.start,O4,XQ,X4,XC,w1,w2,hmod,f1,f2,f3,f6,f6',v1,Int.toNat_natCast,↓X1,wF,seval]
 exact Xx rfl rfl (X9 _) rfl
theorem FI (L:List V2) (R:List Nat) (p:Nat) (h:Rok L R) (hp:p<1000000):Fn Tryz.prog 289 [jk L R,I p] (.tup [I (nr R (p+R.length - 1)),I (nr R (p+R.length+1))]):=by
 have c1:=HO L R ((p:Int) - 1) (p+R.length - 1) h (by have:=h.pos; omega) (by have:=h.len; omega) (by omega) (by omega)
 have c2:=HO L R ((p:Int)+1) (p+R.length+1) h (by omega) (by have:=h.len; omega) (by omega) (by omega)
 have w1:IntKind.i64.wrap ((p:Int) - 1)=(p:Int) - 1:=by rw [IntKind.wrap_i64]; omega
 have w2:IntKind.i64.wrap ((p:Int)+1)=(p:Int)+1:=by rw [IntKind.wrap_i64]; omega
 have hl:SeesL [.row 0 1 (Xk [.ptr 2 (Xk [Xw L,X3 (zs R)]) 0])] ([.ref 0 0 0]:List AV) [rW L R]:=⟨Z0 (.inl rfl) (by omega) (fun j hj=>by
  obtain rfl:j=0:=by omega
  exact (A9 L R).sees _),trivial⟩
 refine Fq Tryz.call289 Tryz.func289 7 [] [] [] (by simp [A9,X9]) (Xi ?_)
 simp only [AS.start,XQ,w1,w2,↓X1,wF,seval]
 refine JF c1 rfl ⟨Qx (X9 _) rfl,hl⟩ (BB _ _) ?_
 simp only [w1,w2,↓X1,wF,seval]
 refine JF c2 rfl ⟨Qx (X9 _) rfl,hl⟩ (BB _ _) ?_
 simp only [w1,w2,↓X1,wF,seval]
 exact Rv rfl rfl rfl (X9 _) (X9 _) rfl rfl
def LG (L:List V2) (R:List Nat) (p:Nat):Int:=Jg (L.getD (nr R (p+R.length - 1)) v0) (L.getD (R.getD p 0) v0) (L.getD (nr R (p+R.length+1)) v0)
theorem VD (L:List V2) (R:List Nat) (p k:Nat) (h:Rok L R) (hp:p<R.length) (hs:Qk L k) (hk:k≤10000):Fn Tryz.prog 288 [jk L R,I p] (I (LG L R p)):=by
 have c1:=FI L R p h (by have:=h.len; omega)
 have c2:=KZ (L.getD (nr R (p+R.length - 1)) v0) (L.getD (R.getD p 0) v0) (L.getD (nr R (p+R.length+1)) v0) (by have:=hs (nr R (p+R.length - 1)); unfold vs; omega) (by have:=hs (R.getD p 0); unfold vs; omega) (by have:=hs (nr R (p+R.length+1)); unfold vs; omega)
 obtain ⟨h0,hn,hmem,hL⟩:=h
 have m1:=hmem ((p+R.length - 1) % R.length)
 have m2:=hmem ((p+R.length+1) % R.length)
 have m3:=hmem p
 change nr R (p+R.length - 1)<L.length at m1
 change nr R (p+R.length+1)<L.length at m2
 unfold LG
 generalize nr R (p+R.length - 1)=a at *
 generalize nr R (p+R.length+1)=c at *
 have v2:=DY R p
 generalize R.getD p 0=b at *
 have f1:((p:Int)<R.length)=True:=eq_true (by omega)
 have f2:(p<R.length)=True:=eq_true hp
 have f3:(p+1≤R.length)=True:=eq_true (by omega)
 have a1:((a:Int)<L.length)=True:=eq_true (by omega)
 have a2:(a<L.length)=True:=eq_true m1
 have a3:(a*8+8≤L.length*8)=True:=eq_true (by omega)
 have b1:((b:Int)<L.length)=True:=eq_true (by omega)
 have b2:(b<L.length)=True:=eq_true m3
 have b3:(b*8+8≤L.length*8)=True:=eq_true (by omega)
 have e1:((c:Int)<L.length)=True:=eq_true (by omega)
 have e2:(c<L.length)=True:=eq_true m2
 have e3:(c*8+8≤L.length*8)=True:=eq_true (by omega)
 have va:=vF L a
 have vb:=vF L b
 have vc:=vF L c
 refine Fq Tryz.call288 Tryz.func288 7 [] [] [] (by simp [A9,X9]) (Xi ?_)
 simp only [AS.start,XQ,X5,X4,↓X1,wF,seval]
 refine X0 c1 rfl ?_
 simp only [XQ,X5,X4,XC,f1,f2,f3,a1,a2,a3,b1,b2,b3,e1,e2,e3,va,vb,vc,v2,Int.toNat_natCast,↓X1,wF,seval]
 refine X0 c2 rfl ?_
 simp only [↓X1,wF,seval]
 exact Xx rfl rfl (X9 _) rfl
theorem fS (s:List Int) (v:Int) (hl:s.length<1048576):Fn Tryz.prog 297 [X3 s,I v] (I (GY (fun x=>decide (v=x)) s)):=by
 refine Fr Tryz.call297 Tryz.func297 6 [6,7,8] [] [] ?_
 simp only [AS.start,X4,↓X1,wF,seval]
 refine Xd (fun j:Nat=>⟨6,[6,7,8],[X3 s,I v,.any,.any,.any,.any],[(6,X3 s),(7,I s.length),(8,I j)],[]⟩) (fun j=>j≤s.length∧∀ i,i<j→(fun x=>decide (v=x)) (s.getD i 0)=false) (fun j=>s.length - j) 0 ⟨by omega,by omega⟩
  (Xf rfl (by simp [Xg,X4,I]) (by simp [Xn,Xr,X4,I]) rfl) ?_
 rintro j ⟨hj,hno⟩ next
 have w1:=wj j (by omega)
 refine Xi ?_
 simp only [X4,w1,↓X1,wF,seval]
 refine ⟨fun h=>⟨h,h,?_⟩,fun h=>Xx (v:=I (-1)) rfl rfl (X9 _) ?_⟩
 ·refine ⟨fun ht=>Xx (v:=I j) rfl rfl (X9 _) ?_,fun hf=>next (j+1) _ ⟨by omega,fun i hi=>?_⟩ (by omega) (Xf rfl ?_ ?_ rfl)⟩
  ·rw [F2 h (decide_eq_true ht) hno]
  ·by_cases e:i=j
   ·rw [e]; exact decide_eq_false hf
   ·exact hno i (by omega)
  ·simp [Xg,X4,I]
  ·simp [Xn,Xr,X4,I]
 ·rw [FY fun i hi=>hno i (by omega)]
def TM (R:List Nat) (x:Int):Nat:=(GY (fun y=>decide (x=y)) (zs R)).toNat
theorem NU {R:List Nat} (hd:R.Nodup) {p:Nat} (hp:p<R.length):GY (fun y=>decide (((R.getD p 0:Nat):Int)=y)) (zs R)=p:=by
 have at_:∀ i (hi:i<R.length),R.getD i 0=R[i]:=fun i hi=>by rw [List.getD_eq_getElem?_getD,List.getElem?_eq_getElem hi]; rfl
 refine F2 (by rw [XC]; exact hp) (by rw [DY]; simp) fun i hi=>?_
 rw [DY]
 refine decide_eq_false fun e=>?_
 rw [at_ i (by omega),at_ p hp] at e
 have e2:R[p]=R[i]:=by omega
 have:=(List.getElem_inj (i:=p) (j:=i) (h₀:=hp) (h₁:=by omega) hd).1 e2
 omega
theorem WN (L:List V2) (R:List Nat) (x:Int) (k:Nat) (h:Rok L R) (hd:R.Nodup) (hx:x∈zs R) (hs:Qk L k) (hk:k≤10000):Fn Tryz.prog 296 [I x,rW L R] (.bool (decide (LG L R (TM R x)=0))):=by
 obtain ⟨p,hp,rfl⟩:∃ p,p<R.length∧((R.getD p 0:Nat):Int)=x:=by
  obtain ⟨i,hi,rfl⟩:=List.getElem_of_mem hx
  refine ⟨i,by rw [XC] at hi; exact hi,?_⟩
  rw [← DY,List.getD_eq_getElem?_getD,List.getElem?_eq_getElem hi]; rfl
 have c1:=fS (zs R) ((R.getD p 0:Nat):Int) (by rw [XC]; have:=h.len; omega)
 have e:TM R ((R.getD p 0:Nat):Int)=p:=by unfold TM; rw [NU hd hp]; rfl
 rw [NU hd hp] at c1
 rw [e]
 have c2:=VD L R p k h hp hs hk
 refine Fq Tryz.call296 Tryz.func296 4 [] [] [] (by simp [De,X9]) (Xi ?_)
 simp only [AS.start,O4,XQ,X4,XC,↓X1,wF,seval]
 refine X0 c1 (by simp only [X4,XC]; rfl) ?_
 simp only [O4,XQ,X4,XC,↓X1,wF,seval]
 refine X0 c2 (by simp only [XQ,X4,XC]; rfl) ?_
 simp only [↓X1,wF,seval]
 exact Xx rfl rfl (X2 _) rfl
def Zc (L:List V2) (R:List Nat):Nat:=(List.range R.length).findIdx fun p=>decide (LG L R p=0)
theorem Pk (L:List V2) (R:List Nat):Zc L R≤R.length:=by
 have:=List.findIdx_le_length (xs:=List.range R.length) (p:=fun p=>decide (LG L R p=0))
 rw [List.length_range] at this
 exact this
theorem Yp {L:List V2} {R:List Nat} (h:Zc L R<R.length):LG L R (Zc L R)=0:=by
 have:=List.findIdx_getElem (xs:=List.range R.length) (p:=fun p=>decide (LG L R p=0)) (w:=by rw [List.length_range]; exact h)
 rw [List.getElem_range] at this
 exact of_decide_eq_true this
theorem Pl {L:List V2} {R:List Nat} {p:Nat} (h:p<Zc L R):LG L R p≠0:=by
 have h2:=Pk L R
 have:=List.not_of_lt_findIdx (xs:=List.range R.length) (p:=fun p=>decide (LG L R p=0)) (i:=p) h
 rw [List.getElem_range] at this
 exact of_decide_eq_false this
def ZZ (L:List V2):Nat→List Nat→List Nat
 | 0,R=>R
 | f+1,R=>if 3<R.length∧Zc L R<R.length then ZZ L f (R.eraseIdx (Zc L R)) else R
theorem kD {L:List V2} {R:List Nat} (hd:R.Nodup):GY (fun x=>decide (LG L R (TM R x)=0)) (zs R)=if Zc L R<R.length then ((Zc L R:Nat):Int) else -1:=by
 have at_:∀ p,p<R.length→TM R ((zs R).getD p 0)=p:=fun p hp=>by unfold TM; rw [DY,NU hd hp]; rfl
 split
 ·rename_i h
  refine F2 (by rw [XC]; exact h) ?_ fun i hi=>?_
  ·rw [at_ _ h]; exact decide_eq_true (Yp h)
  ·rw [at_ _ (by omega)]; exact decide_eq_false (Pl hi)
 ·rename_i h
  refine FY fun i hi=>?_
  rw [XC] at hi
  have:=Pk L R
  rw [at_ _ hi]; exact decide_eq_false (Pl (by omega))
def IL (L:List V2) (N:Nat) (R:List Nat):List AO:=[.row 0 2 (Xk [Xw L,.osl 1 (N - R.length) 1 0 R.length]),.row (N - R.length) R.length (Q9 I 0 (zs R))]
theorem J3 (L:List V2) (N:Nat) (R:List Nat):IL L N R=[.row 0 2 (Xk [Xw L,.osl 1 (N - R.length) 1 0 R.length]),.row (N - R.length) R.length (Q9 I 0 (zs R))]:=nrfl rfl
theorem Kf (L:List V2) (N:Nat) (R:List Nat):On 2 (IL L N R):=by
 refine ⟨rfl,fun o ho=>?_⟩
 have bL:Kn 2 (Xw L)=True:=eq_true (X7 (Xh L))
 simp only [IL,List.mem_cons,List.not_mem_nil,or_false] at ho
 rcases ho with rfl | rfl
 ·exact ⟨by simp [XA,bL],by simp,by simp⟩
 ·exact ⟨fun j _=>X7 (X9 _),by simp,by simp⟩
theorem Hz {L:List V2} {N:Nat} {R:List Nat} {rest:List AO}:Kj (IL L N R ++ rest) (.ref 0 0 0) (jk L R):=Z0 (.inl rfl) (by omega) fun j hj=>by
 match j,hj with
 | 0,_=>exact (Xh L).sees _
 | 1,_ =>
  show Kj _ (.osl 1 (N - R.length) 1 0 R.length) (X3 (zs R))
  have:=N0 (l:=zs R) (H:=IL L N R ++ rest) (id:=1) (ver:=N - R.length) (n:=R.length) rfl (by rw [XC]; exact Nat.le_refl _)
  rw [XC] at this
  exact this
 | j+2,h=>omega
theorem RG {L:List V2} {N:Nat} {R:List Nat} {rest:List AO}:Kj (IL L N R ++ rest) (.osl 1 (N - R.length) 1 0 R.length) (X3 (zs R)):=by
 have:=N0 (l:=zs R) (H:=IL L N R ++ rest) (id:=1) (ver:=N - R.length) (n:=R.length) rfl (by rw [XC]; exact Nat.le_refl _)
 rw [XC] at this
 exact this
theorem uc {P:Program} {fn:Func} {str hcs:List Nat} {m:Nat} {H:List AO} {s:AS} (hr:fn.results=#[]) (hH:s.h.take m=H):RetOk (Lw P fn str hcs m (.tup []) H) s :=
 ⟨.tup [],by show KO P fn s=_; simp [KO,hr,J2,ZA],rfl,hH⟩
theorem rU {P:Program} {fn:Func} {str hcs:List Nat} {m:Nat} {H:List AO} {s:AS} (hr:fn.results=#[]) (hH:s.h.take m=H):RetE (Lw P fn str hcs m (.tup []) H) s :=
 ⟨.tup [],by show KO P fn s=_; simp [KO,hr,J2,ZA],rfl,hH⟩
theorem DG {L:List V2} {R:List Nat} {q:Nat} (h:Rok L R) (h3:3<R.length) (hq:q<R.length):Rok L (R.eraseIdx q):=by
 obtain ⟨h0,hn,hmem,hL⟩:=h
 have hlen:(R.eraseIdx q).length=R.length - 1:=by rw [List.length_eraseIdx,if_pos hq]
 refine ⟨by omega,by omega,fun j=>?_,hL⟩
 rw [List.getD_eq_getElem?_getD,List.getElem?_eraseIdx]
 split
 ·rw [← List.getD_eq_getElem?_getD]; exact hmem j
 ·rw [← List.getD_eq_getElem?_getD]; exact hmem (j+1)
theorem dO (L:List V2) (N:Nat) (R0:List Nat) (k:Nat) (h:Rok L R0) (hd:R0.Nodup) (hN:R0.length≤N) (hs:Qk L k) (hk:k≤10000):HCall Tryz.prog 291 [.ref 0 0 0] (IL L N R0) (.tup []) (IL L N (ZZ L R0.length R0)):=by
 have bL:Kn 3 (Xw L)=True:=eq_true (X7 (Xh L))
 refine HCall.introC (fn:=Tryz.f291) Tryz.call291 Tryz.func291 rfl mixed 3 [] [4,50000001,5004] [4] (by kernel_rfl) (Nat.le_of_ble_eq_true rfl) (X7 (RM (by simp))) (fun o ho=>((Kf _ _ _).2 o ho).1) (Xi ?_)
 simp only [AS.start,J3,↓X1,wF,seval]
 refine Xd (fun R:List Nat=>⟨3,[],[.any,.ref 2 0 0,.any],[],IL L N R ++ [.con 0 1 (Xk [.ref 0 0 0])]⟩) (fun R=>Rok L R∧R.Nodup∧R.length≤N∧ZZ L R.length R=ZZ L R0.length R0) (fun R=>R.length) R0 ⟨h,hd,hN,rfl⟩
  (Sub.trans (Qy 2 rfl) (Ku (by simp [Xg]) (by simp [IL]))) ?_
 rintro R ⟨hR,hdR,hNR,hcl⟩ next
 have hR':=hR
 obtain ⟨h0,hn,hmem,hL⟩:=hR'
 by_cases h3:3<R.length
 rotate_left
 ·have e:ZZ L R.length R=R:=by
   cases hl:R.length with
   | zero=>rfl
   | succ n=>unfold ZZ; rw [if_neg (by omega)]
  rw [e] at hcl
  have f1:((3:Int)<R.length)=False:=eq_false (by omega)
  refine Xi ?_
  simp only [J3,List.cons_append,List.nil_append,f1,↓X1,wF,seval]
  rw [← hcl]
  exact rU rfl rfl
 have f1:((3:Int)<R.length)=True:=eq_true (by omega)
 have ci:=Mr (zs R) 296 [rW L R] (fun x=>decide (LG L R (TM R x)=0)) (by rw [XC]; omega) (fun a ha=>by rw [List.mem_singleton.1 ha]; exact De L R) (fun x hx=>WN L R x k hR hdR hx hs hk)
 rw [kD hdR] at ci
 have sB:Kj (IL L N R ++ [.con 0 1 (Xk [.ref 0 0 0])]) (.ref 2 0 0) (rW L R):=Z0 (.inr rfl) (by omega) fun j hj=>by
  obtain rfl:j=0:=by omega
  exact Hz
 by_cases hq:Zc L R<R.length
 rotate_left
 ·have e:ZZ L R.length R=R:=by
   cases hl:R.length with
   | zero=>rfl
   | succ n=>unfold ZZ; rw [if_neg (by omega)]
  rw [e] at hcl
  rw [if_neg hq] at ci
  refine Xi ?_
  simp only [J3,List.cons_append,List.nil_append,f1,↓X1,wF,seval]
  refine JF ci rfl ⟨RG,Cj ⟨sB,trivial⟩,trivial⟩ (BB _ _) ?_
  simp only [show ((-1:Int)<0)=True from eq_true (by omega),↓X1,wF,seval]
  rw [← hcl]
  exact uc rfl rfl
 rw [if_pos hq] at ci
 have hlq:∀ q,q<R.length→(R.eraseIdx q).length=R.length - 1:=fun q hq=>by rw [List.length_eraseIdx,if_pos hq]
 have ecl:ZZ L R.length R=ZZ L (R.eraseIdx (Zc L R)).length (R.eraseIdx (Zc L R)):=by
  rw [hlq _ hq]
  cases hl:R.length with
  | zero=>omega
  | succ n =>
   show (if 3<R.length∧Zc L R<R.length then ZZ L n (R.eraseIdx (Zc L R)) else R)=_
   rw [if_pos ⟨h3,hq⟩]; rfl
 rw [ecl] at hcl
 generalize Zc L R=q at *
 have hl:=hlq q hq
 have f2:((q:Int)<0)=False:=eq_false (by omega)
 have w1:=wj q (by omega)
 have cd:=M5 (.row 0 2 (Xk [Xw L,.osl 1 (N - R.length) 1 0 R.length])) (zs R) (N - R.length) q (by rw [XC]; exact hq)
 rw [XC,Sm] at cd
 refine Xi ?_
 simp only [J3,List.cons_append,List.nil_append,f1,↓X1,wF,seval]
 refine JF ci rfl ⟨RG,Cj ⟨sB,trivial⟩,trivial⟩ (BB _ _) ?_
 simp only [w1,f2,↓X1,wF,seval]
 have o2:∀ o∈[AO.row 0 2 (Xk [Xw L,.osl 1 (N - R.length) 1 0 R.length]),.row (N - R.length+1) (R.length - 1) (Q9 I 0 (zs (R.eraseIdx q)))],o≠.unborn∧∀ v n f,o≠.con v n f:=fun o ho=>by
  simp only [List.mem_cons,List.not_mem_nil,or_false] at ho
  rcases ho with rfl | rfl <;> exact ⟨by simp,by simp⟩
 have bA:∀ a∈[AV.osl 1 (N - R.length) 1 0 R.length,I q,I ((q+1:Nat):Int)],Kn 2 a:=fun a ha=>by
  simp only [List.mem_cons,List.not_mem_nil,or_false] at ha
  rcases ha with rfl | rfl | rfl
  ·exact Hg (by omega)
  ·exact X7 (X9 _)
  ·exact X7 (X9 _)
 refine BR (H1:=IL L N R) (H1':=[AO.row 0 2 (Xk [Xw L,.osl 1 (N - R.length) 1 0 R.length]),.row (N - R.length+1) (R.length - 1) (Q9 I 0 (zs (R.eraseIdx q)))]) (rest:=[.con 0 1 (Xk [.ref 0 0 0])]) rfl cd rfl rfl bA (fun o ho=>((Kf L N R).2 o ho).1) (fun o ho=>((Kf L N R).2 o ho).2.1) (fun o ho=>(o2 o ho).1) (QM (fun o ho=>((Kf L N R).2 o ho).2.2) (fun o ho=>(o2 o ho).2)) (Qn _) ?_
 simp only [List.cons_append,List.nil_append,↓X1,wF,seval]
 exact next (R.eraseIdx q) _ ⟨DG hR h3 hq,hdR.eraseIdx q,by omega,hcl⟩ (by omega) (Ku (by simp [Xg]) (by rw [J3,hl,show N - (R.length - 1)=N - R.length+1 by omega]; rfl))
def o9 (a b c p:V2):Prop:=0≤Jg a b p∧0≤Jg b c p∧0≤Jg c a p
def CQ (L:List V2) (a b c k:Nat):Prop:=k=a∨k=c∨k=b∨¬ o9 (L.getD a v0) (L.getD b v0) (L.getD c v0) (L.getD k v0)
def AR (L:List V2) (R:List Nat) (p:Nat):Bool:=decide (0<LG L R p∧∀ j,j<R.length→CQ L (nr R (p+R.length - 1)) (R.getD p 0) (nr R (p+R.length+1)) (R.getD j 0))
def LJ (A B C:V2):AV:=.sl 3 24 (Xk [.bool (decide (A.x.num<0)),X3 (X6 A.x.num.natAbs),.bool false,X3 (X6 (qd A.x)),.bool (decide (A.y.num<0)),X3 (X6 A.y.num.natAbs),.bool false,X3 (X6 (qd A.y)),.bool (decide (B.x.num<0)),X3 (X6 B.x.num.natAbs),.bool false,X3 (X6 (qd B.x)),.bool (decide (B.y.num<0)),X3 (X6 B.y.num.natAbs),.bool false,X3 (X6 (qd B.y)),.bool (decide (C.x.num<0)),X3 (X6 C.x.num.natAbs),.bool false,X3 (X6 (qd C.x)),.bool (decide (C.y.num<0)),X3 (X6 C.y.num.natAbs),.bool false,X3 (X6 (qd C.y))]) true
theorem XL (A B C:V2):LJ A B C=.sl 3 24 (Xk [.bool (decide (A.x.num<0)),X3 (X6 A.x.num.natAbs),.bool false,X3 (X6 (qd A.x)),.bool (decide (A.y.num<0)),X3 (X6 A.y.num.natAbs),.bool false,X3 (X6 (qd A.y)),.bool (decide (B.x.num<0)),X3 (X6 B.x.num.natAbs),.bool false,X3 (X6 (qd B.x)),.bool (decide (B.y.num<0)),X3 (X6 B.y.num.natAbs),.bool false,X3 (X6 (qd B.y)),.bool (decide (C.x.num<0)),X3 (X6 C.x.num.natAbs),.bool false,X3 (X6 (qd C.x)),.bool (decide (C.y.num<0)),X3 (X6 C.y.num.natAbs),.bool false,X3 (X6 (qd C.y))]) true:=nrfl rfl
theorem pO (L:List V2) (R:List Nat) (p k:Nat) (h:Rok L R) (hp:p<R.length) (hs:Qk L k) (hk:k≤10000):Fn Tryz.prog 274 [jk L R,I p] (.bool (AR L R p)):=by
 have c1:=VD L R p k h hp hs hk
 have c2:=FI L R p h (by have:=h.len; omega)
 obtain ⟨h0,hn,hmem,hL⟩:=h
 have m1:=hmem ((p+R.length - 1) % R.length)
 have m2:=hmem ((p+R.length+1) % R.length)
 have m3:=hmem p
 change nr R (p+R.length - 1)<L.length at m1
 change nr R (p+R.length+1)<L.length at m2
 have hear:AR L R p=decide (0<LG L R p∧∀ j,j<R.length→CQ L (nr R (p+R.length - 1)) (R.getD p 0) (nr R (p+R.length+1)) (R.getD j 0)):=rfl
 generalize AR L R p=E at *
 generalize LG L R p=S at *
 generalize nr R (p+R.length - 1)=a at *
 generalize nr R (p+R.length+1)=c at *
 have v2:=DY R p
 generalize R.getD p 0=b at *
 have f1:((p:Int)<R.length)=True:=eq_true (by omega)
 have f2:(p<R.length)=True:=eq_true hp
 have f3:(p+1≤R.length)=True:=eq_true (by omega)
 have a1:((a:Int)<L.length)=True:=eq_true (by omega)
 have a2:(a<L.length)=True:=eq_true m1
 have a3:(a*8+8≤L.length*8)=True:=eq_true (by omega)
 have b1:((b:Int)<L.length)=True:=eq_true (by omega)
 have b2:(b<L.length)=True:=eq_true m3
 have b3:(b*8+8≤L.length*8)=True:=eq_true (by omega)
 have e1:((c:Int)<L.length)=True:=eq_true (by omega)
 have e2:(c<L.length)=True:=eq_true m2
 have e3:(c*8+8≤L.length*8)=True:=eq_true (by omega)
 have va:=vF L a
 have vb:=vF L b
 have vc:=vF L c
 refine Fq Tryz.call274 Tryz.func274 11 [52,53,54,77,78,79] [] [] (by simp [A9,X9]) (Xi ?_)
 simp only [AS.start,XQ,X5,X4,↓X1,wA,↓reduceIte,reduceIte,reduceCtorEq,Y1,Y2,Y3,Y4,Y5,Y6,Y7,Y8,Y9,YA,wE]
 refine X0 c1 rfl ?_
 by_cases hS:S≤0
 ·have g1:(S≤0)=True:=eq_true hS
  have hE:E=false:=by rw [hear]; exact decide_eq_false fun hh=>by omega
  simp only [XQ,X5,X4,g1,↓X1,wA,↓reduceIte,reduceIte,reduceCtorEq,Y1,Y2,Y3,Y4,Y5,Y6,Y7,Y8,Y9,YA,wE]
  exact Xx (v:=.bool false) rfl rfl (X2 _) (by rw [hE])
 have g1:(S≤0)=False:=eq_false hS
 simp only [XQ,X5,X4,g1,↓X1,wA,↓reduceIte,reduceIte,reduceCtorEq,Y1,Y2,Y3,Y4,Y5,Y6,Y7,Y8,Y9,YA,wE]
 refine X0 c2 rfl ?_
 simp only [XQ,X5,X4,XC,f1,f2,f3,a1,a2,a3,b1,b2,b3,e1,e2,e3,va,vb,vc,v2,Int.toNat_natCast,↓X1,wA,↓reduceIte,reduceIte,reduceCtorEq,Y1,Y2,Y3,Y4,Y5,Y6,Y7,Y8,Y9,YA,wE]
 have sA:=hs a
 have sB:=hs b
 have sC:=hs c
 generalize hA:L.getD a v0=A at *
 generalize hB:L.getD b v0=B at *
 generalize hC:L.getD c v0=C at *
 have hfree:∀ q,CQ L a b c q=(q=a∨q=c∨q=b∨¬ o9 A B C (L.getD q v0)):=fun q=>by unfold CQ; rw [hA,hB,hC]
 refine Xd (fun j:Nat=>⟨11,[52,53,54,77,78,79],[jk L R,I p,.any,.any,.any,I a,I c,LJ A B C,.any,.any,.any],[(52,X3 (zs R)),(53,I R.length),(54,I j)],[]⟩) (fun j=>j≤R.length∧∀ i,i<j→CQ L a b c (R.getD i 0)) (fun j=>R.length - j) 0 ⟨by omega,fun i hi=>absurd hi (Nat.not_lt_zero i)⟩
  (Xf rfl (by simp [Xg,XQ,X5,X4,XC,XL,I]) (by simp [Xn,Xr,X4,XC,I]) rfl) ?_
 rintro j ⟨hj,hno⟩ next
 have w1:=wj j (by omega)
 by_cases hj2:j<R.length
 rotate_left
 ·obtain rfl:j=R.length:=by omega
  have hE:E=true:=by rw [hear]; exact decide_eq_true ⟨by omega,hno⟩
  refine Xi ?_
  simp only [XQ,X5,X4,XC,XL,Int.lt_irrefl,Nat.lt_irrefl,↓X1,wA,↓reduceIte,reduceIte,reduceCtorEq,Y1,Y2,Y3,Y4,Y5,Y6,Y7,Y8,Y9,YA,wE]
  exact Xx (v:=.bool true) rfl rfl (X2 _) (by rw [hE])
 have k1:((j:Int)<R.length)=True:=eq_true (by omega)
 have k2:(j<R.length)=True:=eq_true hj2
 have k3:(j+1≤R.length)=True:=eq_true (by omega)
 have v3:=DY R j
 have m4:=hmem j
 have nx:=next (j+1)
 have hgo:=fun hfr=>CC.2 (show (∀ i,i<j→CQ L a b c (R.getD i 0))∧CQ L a b c (R.getD j 0) from ⟨hno,hfr⟩)
 have hstop:¬ CQ L a b c (R.getD j 0)→E=false:=fun hb=>by rw [hear]; exact decide_eq_false fun hh=>hb (hh.2 j hj2)
 rw [hfree] at hgo hstop
 generalize R.getD j 0=q at *
 have sQ:=hs q
 by_cases q1:q=a
 ·have g1:((q:Int)=(a:Int))=True:=eq_true (by omega)
  refine Xi ?_
  simp only [XQ,X5,X4,XC,XL,w1,f1,f2,f3,v2,k1,k2,k3,v3,g1,Int.toNat_natCast,↓X1,wA,↓reduceIte,reduceIte,reduceCtorEq,Y1,Y2,Y3,Y4,Y5,Y6,Y7,Y8,Y9,YA,wE]
  exact nx _ ⟨by omega,hgo (.inl q1)⟩ (by omega) (Xf rfl (by simp [Xg,XQ,X5,X4,XC,XL,I]) (by simp [Xn,Xr,X4,XC,I]) rfl)
 have g1':((q:Int)=(a:Int))=False:=eq_false (by omega)
 by_cases q2:q=c
 ·have g2:((q:Int)=(c:Int))=True:=eq_true (by omega)
  refine Xi ?_
  simp only [XQ,X5,X4,XC,XL,w1,f1,f2,f3,v2,k1,k2,k3,v3,g1',g2,Int.toNat_natCast,↓X1,wA,↓reduceIte,reduceIte,reduceCtorEq,Y1,Y2,Y3,Y4,Y5,Y6,Y7,Y8,Y9,YA,wE]
  exact nx _ ⟨by omega,hgo (.inr (.inl q2))⟩ (by omega) (Xf rfl (by simp [Xg,XQ,X5,X4,XC,XL,I]) (by simp [Xn,Xr,X4,XC,I]) rfl)
 have g2':((q:Int)=(c:Int))=False:=eq_false (by omega)
 by_cases q3:q=b
 ·have g3:((q:Int)=(b:Int))=True:=eq_true (by omega)
  refine Xi ?_
  simp only [XQ,X5,X4,XC,XL,w1,f1,f2,f3,v2,k1,k2,k3,v3,g1',g2',g3,Int.toNat_natCast,↓X1,wA,↓reduceIte,reduceIte,reduceCtorEq,Y1,Y2,Y3,Y4,Y5,Y6,Y7,Y8,Y9,YA,wE]
  exact nx _ ⟨by omega,hgo (.inr (.inr (.inl q3)))⟩ (by omega) (Xf rfl (by simp [Xg,XQ,X5,X4,XC,XL,I]) (by simp [Xn,Xr,X4,XC,I]) rfl)
 have g3':((q:Int)=(b:Int))=False:=eq_false (by omega)
 refine Xi ?_
 simp only [XQ,X5,X4,XC,XL,w1,f1,f2,f3,v2,k1,k2,k3,v3,g1',g2',g3',Int.toNat_natCast,↓X1,wA,↓reduceIte,reduceIte,reduceCtorEq,Y1,Y2,Y3,Y4,Y5,Y6,Y7,Y8,Y9,YA,wE]
 have x1:((q:Int)<L.length)=True:=eq_true (by omega)
 have x2:(q<L.length)=True:=eq_true m4
 have x3:(q*8+8≤L.length*8)=True:=eq_true (by omega)
 have vq:=vF L q
 generalize hQ:L.getD q v0=Q at *
 have z0:((0:Int)<3)=True:=eq_true (by omega)
 have z1:((1:Int)<3)=True:=eq_true (by omega)
 have z2:((2:Int)<3)=True:=eq_true (by omega)
 have z3:((3:Int)<3)=False:=eq_false (by omega)
 have t1:IntKind.i64.wrap (0+1)=1:=rfl
 have t2:IntKind.i64.wrap (1+1)=2:=rfl
 have t3:IntKind.i64.wrap (2+1)=3:=rfl
 have r1:(1:Int).tmod 3=1:=rfl
 have r2:(2:Int).tmod 3=2:=rfl
 have r3:(3:Int).tmod 3=0:=rfl
 have c3:((3:Nat):Int)=3:=rfl
 have d0:Int.toNat 0=0:=rfl
 have d1:Int.toNat 1=1:=rfl
 have d2:Int.toNat 2=2:=rfl
 have c11:((1:Nat):Int)=1:=rfl
 have c22:((2:Nat):Int)=2:=rfl
 have n3:((3:Int)=0)=False:=eq_false (by omega)
 have p0:((0:Int)≤0)=True:=eq_true (by omega)
 have p1:((0:Int)≤1)=True:=eq_true (by omega)
 have p2:((0:Int)≤2)=True:=eq_true (by omega)
 have o1:IntKind.i64.wrap 1=1:=rfl
 have o2:IntKind.i64.wrap 2=2:=rfl
 have o3:IntKind.i64.wrap 0=0:=rfl
 refine Xd (fun i:Nat=>⟨11,[52,53,54,77,78,79],[jk L R,I p,.any,.any,.any,I a,I c,LJ A B C,.any,I q,.any],[(77,LJ A B C),(78,I 3),(79,I i),(52,X3 (zs R)),(53,I R.length),(54,I j)],[]⟩) (fun i=>i≤3∧((0<i→0≤Jg A B Q)∧(1<i→0≤Jg B C Q)∧(2<i→0≤Jg C A Q))) (fun i=>3 - i) 0 ⟨by omega,by omega,by omega,by omega⟩
  (Xf rfl (by simp [Xg,XQ,X5,X4,XC,XL,I]) (by simp [Xn,Xr,X4,XC,XL,I]) rfl) ?_
 rintro i ⟨hi,hin⟩ next2
 rcases (show i=0∨i=1∨i=2∨i=3 by omega) with rfl | rfl | rfl | rfl
 ·have cs:=KZ A B Q (by unfold vs; omega) (by unfold vs; omega) (by unfold vs; omega)
  have n2:=next2 1
  refine Xi ?_
  simp only [XQ,X5,X4,XC,XL,w1,z0,z1,z2,z3,t1,t2,t3,x1,x2,x3,o1,o2,o3,c3,d0,d1,d2,c11,c22,n3,p0,p1,p2,not_false_eq_true,true_and,r1,r2,r3,vq,Int.toNat_natCast,↓X1,wA,↓reduceIte,reduceIte,reduceCtorEq,Y1,Y2,Y3,Y4,Y5,Y6,Y7,Y8,Y9,YA,wE]
  refine X0 cs rfl ?_
  by_cases hneg:Jg A B Q<0
  ·simp only [eq_true hneg,XQ,X5,X4,XC,XL,w1,↓X1,wA,↓reduceIte,reduceIte,reduceCtorEq,Y1,Y2,Y3,Y4,Y5,Y6,Y7,Y8,Y9,YA,wE]
   exact nx _ ⟨by omega,hgo (.inr (.inr (.inr fun hh=>by unfold o9 at hh; omega)))⟩ (by omega) (Xf rfl (by simp [Xg,XQ,X5,X4,XC,XL,I]) (by simp [Xn,Xr,X4,XC,I]) rfl)
  ·simp only [eq_false hneg,XQ,X5,X4,XC,XL,w1,t1,t2,t3,↓X1,wA,↓reduceIte,reduceIte,reduceCtorEq,Y1,Y2,Y3,Y4,Y5,Y6,Y7,Y8,Y9,YA,wE]
   exact n2 _ ⟨by omega,by omega⟩ (by omega) (Xf rfl (by simp [Xg,XQ,X5,X4,XC,XL,I]) (by simp [Xn,Xr,X4,XC,XL,I]) rfl)
 ·have cs:=KZ B C Q (by unfold vs; omega) (by unfold vs; omega) (by unfold vs; omega)
  have n2:=next2 2
  refine Xi ?_
  simp only [XQ,X5,X4,XC,XL,w1,z0,z1,z2,z3,t1,t2,t3,x1,x2,x3,o1,o2,o3,c3,d0,d1,d2,c11,c22,n3,p0,p1,p2,not_false_eq_true,true_and,r1,r2,r3,vq,Int.toNat_natCast,↓X1,wA,↓reduceIte,reduceIte,reduceCtorEq,Y1,Y2,Y3,Y4,Y5,Y6,Y7,Y8,Y9,YA,wE]
  refine X0 cs rfl ?_
  by_cases hneg:Jg B C Q<0
  ·simp only [eq_true hneg,XQ,X5,X4,XC,XL,w1,↓X1,wA,↓reduceIte,reduceIte,reduceCtorEq,Y1,Y2,Y3,Y4,Y5,Y6,Y7,Y8,Y9,YA,wE]
   exact nx _ ⟨by omega,hgo (.inr (.inr (.inr fun hh=>by unfold o9 at hh; omega)))⟩ (by omega) (Xf rfl (by simp [Xg,XQ,X5,X4,XC,XL,I]) (by simp [Xn,Xr,X4,XC,I]) rfl)
  ·simp only [eq_false hneg,XQ,X5,X4,XC,XL,w1,t1,t2,t3,↓X1,wA,↓reduceIte,reduceIte,reduceCtorEq,Y1,Y2,Y3,Y4,Y5,Y6,Y7,Y8,Y9,YA,wE]
   exact n2 _ ⟨by omega,by omega⟩ (by omega) (Xf rfl (by simp [Xg,XQ,X5,X4,XC,XL,I]) (by simp [Xn,Xr,X4,XC,XL,I]) rfl)
 ·have cs:=KZ C A Q (by unfold vs; omega) (by unfold vs; omega) (by unfold vs; omega)
  have n2:=next2 3
  refine Xi ?_
  simp only [XQ,X5,X4,XC,XL,w1,z0,z1,z2,z3,t1,t2,t3,x1,x2,x3,o1,o2,o3,c3,d0,d1,d2,c11,c22,n3,p0,p1,p2,not_false_eq_true,true_and,r1,r2,r3,vq,Int.toNat_natCast,↓X1,wA,↓reduceIte,reduceIte,reduceCtorEq,Y1,Y2,Y3,Y4,Y5,Y6,Y7,Y8,Y9,YA,wE]
  refine X0 cs rfl ?_
  by_cases hneg:Jg C A Q<0
  ·simp only [eq_true hneg,XQ,X5,X4,XC,XL,w1,↓X1,wA,↓reduceIte,reduceIte,reduceCtorEq,Y1,Y2,Y3,Y4,Y5,Y6,Y7,Y8,Y9,YA,wE]
   exact nx _ ⟨by omega,hgo (.inr (.inr (.inr fun hh=>by unfold o9 at hh; omega)))⟩ (by omega) (Xf rfl (by simp [Xg,XQ,X5,X4,XC,XL,I]) (by simp [Xn,Xr,X4,XC,I]) rfl)
  ·simp only [eq_false hneg,XQ,X5,X4,XC,XL,w1,t1,t2,t3,↓X1,wA,↓reduceIte,reduceIte,reduceCtorEq,Y1,Y2,Y3,Y4,Y5,Y6,Y7,Y8,Y9,YA,wE]
   exact n2 _ ⟨by omega,by omega⟩ (by omega) (Xf rfl (by simp [Xg,XQ,X5,X4,XC,XL,I]) (by simp [Xn,Xr,X4,XC,XL,I]) rfl)
 ·have hE:E=false:=hstop (by
   rintro (e | e | e | e)
   ·exact q1 e
   ·exact q2 e
   ·exact q3 e
   ·exact e ⟨hin.1 (by omega),hin.2.1 (by omega),hin.2.2 (by omega)⟩)
  refine Xi ?_
  simp only [XQ,X5,X4,XC,XL,z3,c3,↓X1,wA,↓reduceIte,reduceIte,reduceCtorEq,Y1,Y2,Y3,Y4,Y5,Y6,Y7,Y8,Y9,YA,wE]
  exact Xx (v:=.bool false) rfl rfl (X2 _) (by rw [hE])
theorem LN (i:Nat):zs (List.range (i+1))=zs (List.range i) ++ [(i:Int)]:=by unfold zs; rw [List.range_succ,List.map_append]; rfl
theorem pi (L:List V2) (hl:L.length<1000000):HCall Tryz.prog 273 [Xw L] [] (.ref 0 0 0) (IL L (2*L.length) (List.range L.length)):=by
 refine HCall.intro (fn:=Tryz.f273) Tryz.call273 Tryz.func273 rfl mixed 5 [8,9,10] [] [] (by kernel_rfl) (Nat.le_of_ble_eq_true rfl) (Xi ?_)
 simp only [AS.start,X5,↓X1,wF,seval]
 refine Xd (fun i:Nat=>⟨5,[8,9,10],[.any,.any,.any,.ref 0 0 0,.any],[(8,Xw L),(9,I L.length),(10,I i)],[.row 0 2 (Xk [Xw L,.osl 1 i 1 0 i]),.row i i (Q9 I 0 (zs (List.range i)))]⟩) (fun i=>i≤L.length) (fun i=>L.length - i) 0 (by omega)
  (Sub.trans (HA (Q9 I 0 (zs (List.range 0)))) (Sub.trans (Z1 0 (Xk [Xw L,.osl 1 0 1 0 0]) rfl (fun j hj=>by
   match j,hj with
   | 0,_=>exact Qa _ _
   | 1,_ =>
    show Ko _ (.sl 0 0 (fun _=>.any) true) (.osl 1 0 1 0 0)
    exact Aq (n:=0) (f:=Q9 I 0 (zs (List.range 0))) rfl
   | j+2,h=>exact absurd h (by show ¬ j+2<2; omega))) (Xf rfl (by simp [Xg]) (by simp [Xn,Xr,X5,I]) rfl))) ?_
 intro i hi next
 have w1:=wj i (by omega)
 by_cases hi2:i<L.length
 rotate_left
 ·obtain rfl:i=L.length:=by omega
  refine Xi ?_
  simp only [X5,Int.lt_irrefl,Nat.lt_irrefl,↓X1,wF,seval]
  refine IJ rfl rfl ?_
  rw [J3,List.length_range,show 2*L.length - L.length=L.length by omega,X5]
 have nx:=next (i+1)
 rw [LN] at nx
 have hz:(zs (List.range i)).length=i:=by rw [XC,List.length_range]
 generalize zs (List.range i)=Z at *
 have f1:((i:Int)<L.length)=True:=eq_true (by omega)
 have f2:(i<L.length)=True:=eq_true hi2
 have hap:=E7 Z (i:Int)
 rw [hz] at hap
 refine Xi ?_
 simp only [X5,w1,f1,f2,Int.toNat_natCast,↓X1,wF,seval]
 exact ⟨⟨by omega,by omega⟩,nx _ (by omega) (by omega) (Xf rfl (by simp [Xg]) (by simp [Xn,Xr,X5,I]) (by rw [← hap]; rfl))⟩
theorem pK (L:List V2) (N:Nat) (R:List Nat) (p k:Nat) (h:Rok L R) (hd:R.Nodup) (hN:R.length≤N) (h3:3<R.length) (hp:p<R.length) (hs:Qk L k) (hk:k≤10000) :
  HCall Tryz.prog 275 [.ref 0 0 0,I p] (IL L N R) (.agg [I (nr R (p+R.length - 1)),I (R.getD p 0:Nat),I (nr R (p+R.length+1))]) (IL L N (ZZ L (R.length - 1) (R.eraseIdx p))):=by
 have c1:=FI L R p h (by have:=h.len; omega)
 have cd:=M5 (.row 0 2 (Xk [Xw L,.osl 1 (N - R.length) 1 0 R.length])) (zs R) (N - R.length) p (by rw [XC]; exact hp)
 rw [XC,Sm] at cd
 have hl:(R.eraseIdx p).length=R.length - 1:=by rw [List.length_eraseIdx,if_pos hp]
 have cc:=dO L N (R.eraseIdx p) k (DG h h3 hp) (hd.eraseIdx p) (by omega) hs hk
 rw [hl] at cc
 have v2:=DY R p
 have hR:=h
 obtain ⟨h0,hn,hmem,hL⟩:=hR
 generalize ZZ L (R.length - 1) (R.eraseIdx p)=R2 at *
 generalize nr R (p+R.length - 1)=a at *
 generalize nr R (p+R.length+1)=c at *
 generalize R.getD p 0=b at *
 have f1:((p:Int)<R.length)=True:=eq_true (by omega)
 have f2:(p<R.length)=True:=eq_true hp
 have f3:(p+1≤R.length)=True:=eq_true (by omega)
 have w1:=wj p (by omega)
 refine HCall.introC (fn:=Tryz.f275) Tryz.call275 Tryz.func275 rfl mixed 8 [] [] [] (by kernel_rfl) (Nat.le_of_ble_eq_true rfl) (X7 (Qh (by simp [X9]))) (fun o ho=>((Kf _ _ _).2 o ho).1) (Xi ?_)
 simp only [AS.start,J3,List.cons_append,List.nil_append,↓X1,wF,seval]
 refine JF c1 rfl ⟨Hz (N:=N) (rest:=[.row 0 3 (Xk [I 0,I 0,I 0])]),Qx (X9 _) rfl,trivial⟩ (fu (by simp [I,BB])) ?_
 simp only [w1,f1,f2,f3,v2,Int.toNat_natCast,↓X1,wF,seval]
 have o2:∀ o∈[AO.row 0 2 (Xk [Xw L,.osl 1 (N - R.length) 1 0 R.length]),.row (N - R.length+1) (R.length - 1) (Q9 I 0 (zs (R.eraseIdx p)))],o≠.unborn∧∀ v n f,o≠.con v n f:=fun o ho=>by
  simp only [List.mem_cons,List.not_mem_nil,or_false] at ho
  rcases ho with rfl | rfl <;> exact ⟨by simp,by simp⟩
 have bA:∀ a∈[AV.osl 1 (N - R.length) 1 0 R.length,I p,I ((p+1:Nat):Int)],Kn 2 a:=fun a ha=>by
  simp only [List.mem_cons,List.not_mem_nil,or_false] at ha
  rcases ha with rfl | rfl | rfl
  ·exact Hg (by omega)
  ·exact X7 (X9 _)
  ·exact X7 (X9 _)
 have bR:∀ a∈[AV.ref 0 0 0],Kn 2 a:=fun a ha=>by
  rw [List.mem_singleton.1 ha]
  have:Kn 2 (.ref 0 0 0)=True:=by simp [XA]
  exact this▸trivial
 refine BR (H1:=IL L N R) (H1':=[AO.row 0 2 (Xk [Xw L,.osl 1 (N - R.length) 1 0 R.length]),.row (N - R.length+1) (R.length - 1) (Q9 I 0 (zs (R.eraseIdx p)))]) (rest:=[.row 0 3 (Xk [I 0,I 0,I 0]),.row 0 3 (Xk [I a,I b,I c])]) rfl cd rfl rfl bA (fun o ho=>((Kf L N R).2 o ho).1) (fun o ho=>((Kf L N R).2 o ho).2.1) (fun o ho=>(o2 o ho).1) (QM (fun o ho=>((Kf L N R).2 o ho).2.2) (fun o ho=>(o2 o ho).2)) (Qn _) ?_
 simp only [List.cons_append,List.nil_append,↓X1,wF,seval]
 refine BR (H1:=IL L N (R.eraseIdx p)) (H1':=IL L N R2) (rest:=[.row 0 3 (Xk [I 0,I 0,I 0]),.row 0 3 (Xk [I a,I b,I c])]) rfl cc (by rw [J3,hl,show N - (R.length - 1)=N - R.length+1 by omega]; rfl) rfl bR (fun o ho=>((Kf L N _).2 o ho).1) (fun o ho=>((Kf L N _).2 o ho).2.1) (fun o ho=>((Kf L N _).2 o ho).2.1) (QM (fun o ho=>((Kf L N _).2 o ho).2.2) (fun o ho=>((Kf L N _).2 o ho).2.2)) (Qn _) ?_
 simp only [J3,List.cons_append,List.nil_append,↓X1,wF,seval]
 exact Vx (v:=.agg [I a,I b,I c]) rfl (by simp [AS.get,JH,fV,rd,Qt,Xk,BG,I]) rfl rfl
theorem vG {a b:Int} (h:a<b):(a<b)=True:=eq_true h
theorem uJ {a b:Int} (h:b≤a):(a<b)=False:=eq_false (by omega)
theorem vE {a b:Int} (h:a≤b):(a≤b)=True:=eq_true h
theorem uI {a b:Int} (h:b<a):(a≤b)=False:=eq_false (by omega)
theorem vD {a b:Int} (h:a=b):(a=b)=True:=eq_true h
theorem uH {a b:Int} (h:a≠b):(a=b)=False:=eq_false h
theorem vK {a b:Nat} (h:a<b):(a<b)=True:=eq_true h
theorem uV {a b:Nat} (h:b≤a):(a<b)=False:=eq_false (by omega)
theorem vJ {a b:Nat} (h:a≤b):(a≤b)=True:=eq_true h
theorem uU {a b:Nat} (h:b<a):(a≤b)=False:=eq_false (by omega)
theorem uS {a b:Nat} (h:a=b):(a=b)=True:=eq_true h
theorem uT {a b:Nat} (h:a≠b):(a=b)=False:=eq_false h
theorem tx {x:Int} (h:-9223372036854775808≤x∧x<9223372036854775808):IntKind.i64.wrap x=x:=by rw [IntKind.wrap_i64]; omega
theorem uK {n:Nat}:(n:Int).toNat=n:=Int.toNat_natCast n
theorem um (f:Nat→AV) (i:Nat) (v:AV) (j:Nat):BM f i v j=if j=i then v else f j:=nrfl rfl
def aJ (l:List AV) (i:Nat) (a:AV):Nat→AV:=BM (Xk l) i a
def UI (x:AV) (f:Nat→AV):Nat→AV:=fun j=>match j with | 0=>x | j+1=>f j
theorem sn (l:List AV) (i:Nat) (a:AV):BM (Xk l) i a=aJ l i a:=nrfl rfl
theorem sq (x a:AV) (l:List AV):aJ (x :: l) 0 a=Xk (a :: l):=by
 funext j; unfold aJ BM Xk; cases j <;> simp
theorem so (x a:AV) (l:List AV) (n:Nat):aJ (x :: l) (n+1) a=UI x (aJ l n a):=by
 funext j; unfold aJ BM Xk UI; cases j <;> simp
theorem kH (x:AV) (l:List AV):UI x (Xk l)=Xk (x :: l):=by
 funext j; unfold Xk UI; cases j <;> simp
def sg (x:Rat):Bool:=decide (x.num<0)
theorem vf (x:Rat):decide (x.num<0)=sg x:=nrfl rfl
set_option linter.defProp false in
def wD:=And.intro @um (And.intro @sn <| And.intro @sq <| And.intro @so <| And.intro @kH <| And.intro @vG (And.intro @uJ (And.intro @vE (And.intro @uI (And.intro @vD (And.intro @uH (And.intro @vK (And.intro @uV (And.intro @vJ (And.intro @uU (And.intro @uS (And.intro @uT (And.intro @tx @uK)))))))))))))
set_option linter.defProp false in
def XK:=And.intro @vf X1
set_option linter.defProp false in
def wG:=And.intro wD wF
def tC (d:Nat×Nat×Nat):List AV:=[I d.1,I d.2.1,I d.2.2]
theorem IW (d:Nat×Nat×Nat):∀ x∈tC d,Settled x:=by simp [tC,X9]
def sb (l:List (Nat×Nat×Nat)):AV:=sK tC 3 (0,0,0) l
theorem DI (l:List (Nat×Nat×Nat)):sb l=.sl l.length (l.length*3) (Xt tC 3 (0,0,0) l) false:=nrfl rfl
theorem RL (l:List (Nat×Nat×Nat)):Settled (sb l):=QP fun j _=>Xe (IW _) _
def CN (L:List V2) (R:List Nat):Nat:=(List.range (R.length - 1)).findIdx (AR L R)
theorem US (L:List V2) (R:List Nat):CN L R≤R.length - 1:=by
 have:=List.findIdx_le_length (xs:=List.range (R.length - 1)) (p:=AR L R)
 rwa [List.length_range] at this
theorem kT {L:List V2} {R:List Nat} {p:Nat} (h1:p≤R.length - 1) (h2:∀ j,j<p→AR L R j=false) (h3:p=R.length - 1∨AR L R p=true):CN L R=p:=by
 have hle:=US L R
 rcases Nat.lt_trichotomy (CN L R) p with h | h | h
 ·have:=List.findIdx_getElem (xs:=List.range (R.length - 1)) (p:=AR L R) (w:=by rw [List.length_range]; unfold CN at h; omega)
  rw [List.getElem_range] at this
  have h4:=h2 _ h
  unfold CN at h4
  rw [h4] at this; cases this
 ·exact h
 ·rcases h3 with h3 | h3
  ·omega
  ·have:=List.not_of_lt_findIdx (xs:=List.range (R.length - 1)) (p:=AR L R) (i:=p) h
   rw [List.getElem_range,h3] at this
   exact absurd this (by simp)
def H6 (R:List Nat) (p:Nat):Nat×Nat×Nat:=(nr R (p+R.length - 1),R.getD p 0,nr R (p+R.length+1))
def CK (L:List V2) (R:List Nat):List Nat:=ZZ L (R.length - 1) (R.eraseIdx (CN L R))
def Ay (L:List V2):Nat→List Nat→List (Nat×Nat×Nat)
 | 0,R=>[(R.getD 0 0,R.getD 1 0,R.getD 2 0)]
 | f+1,R=>if 3<R.length then H6 R (CN L R) :: Ay L f (CK L R) else [(R.getD 0 0,R.getD 1 0,R.getD 2 0)]
def CJ (L:List V2):List (Nat×Nat×Nat):=Ay L L.length (List.range L.length)
theorem dS (L:List V2):∀ (f:Nat) (R:List Nat),Rok L R→R.Nodup→3≤R.length→Rok L (ZZ L f R)∧(ZZ L f R).Nodup∧3≤(ZZ L f R).length∧(ZZ L f R).length≤R.length
 | 0,R,h,hd,h3=>⟨h,hd,h3,Nat.le_refl _⟩
 | f+1,R,h,hd,h3=>by
  unfold ZZ
  split
  ·rename_i hc
   have hl:(R.eraseIdx (Zc L R)).length=R.length - 1:=by rw [List.length_eraseIdx,if_pos hc.2]
   obtain ⟨a1,a2,a3,a4⟩:=dS L f _ (DG h hc.1 hc.2) (hd.eraseIdx _) (by omega)
   exact ⟨a1,a2,a3,by omega⟩
  ·exact ⟨h,hd,h3,Nat.le_refl _⟩
theorem ER {L:List V2} {R:List Nat} (h:Rok L R) (hd:R.Nodup) (h3:3<R.length):Rok L (CK L R)∧(CK L R).Nodup∧3≤(CK L R).length∧(CK L R).length≤R.length - 1:=by
 have hp:CN L R<R.length:=by have:=US L R; omega
 have hl:(R.eraseIdx (CN L R)).length=R.length - 1:=by rw [List.length_eraseIdx,if_pos hp]
 obtain ⟨a1,a2,a3,a4⟩:=dS L (R.length - 1) _ (DG h h3 hp) (hd.eraseIdx _) (by omega)
 exact ⟨a1,a2,a3,by unfold CK; omega⟩
theorem M4 (L:List V2):∀ (f g:Nat) (R:List Nat),Rok L R→R.Nodup→R.length≤f→R.length≤g→Ay L f R=Ay L g R
 | 0,g,R,h,_,hf,_=>by have:=h.pos; omega
 | f+1,0,R,h,_,_,hg=>by have:=h.pos; omega
 | f+1,g+1,R,h,hd,hf,hg=>by
  unfold Ay
  split
  ·rename_i h3
   obtain ⟨a1,a2,a3,a4⟩:=ER h hd h3
   rw [M4 L f g _ a1 a2 (by omega) (by omega)]
  ·rfl
theorem kK {L:List V2} {R:List Nat} (h:Rok L R) (hd:R.Nodup) (h3:3<R.length):Ay L R.length R=H6 R (CN L R) :: Ay L (CK L R).length (CK L R):=by
 obtain ⟨a1,a2,a3,a4⟩:=ER h hd h3
 cases hl:R.length with
 | zero=>omega
 | succ n =>
  show (if 3<R.length then _ else _)=_
  rw [if_pos h3,M4 L n (CK L R).length _ a1 a2 (by omega) (Nat.le_refl _)]
theorem eg {L:List V2} {R:List Nat} (h3:¬ 3<R.length) (f:Nat):Ay L f R=[(R.getD 0 0,R.getD 1 0,R.getD 2 0)]:=by
 cases f with
 | zero=>rfl
 | succ n=>unfold Ay; rw [if_neg h3]
theorem DH {L:List V2} (h:3≤L.length) (hl:L.length<1000000):Rok L (List.range L.length):=⟨by rw [List.length_range]; omega,by rw [List.length_range]; omega,fun j=>by
 rw [List.getD_eq_getElem?_getD]
 by_cases hj:j<L.length
 ·rw [List.getElem?_range hj]; exact hj
 ·rw [List.getElem?_eq_none (by rw [List.length_range]; omega)]; show 0<L.length; omega,hl⟩
theorem mR {P:Program} {fn:Func} {str hcs:List Nat} {s:AS} {t u id ver:Nat} {e:AV} (D:List (Nat×Nat×Nat)) (hr:fn.results=#[.tmp t,.tmp u]) (hs:s.get t=.osl id ver 3 0 D.length) (ho:s.h[id]?=some (.row ver (D.length*3) (Xt tC 3 (0,0,0) D))) (hu:s.get u=e) (he:Settled e):RetOk (QV P fn str hcs (.tup [sb D,e])) s:=by
 refine i9 hr (AM ⟨?_,Qx he hu,trivial⟩)
 rw [hs,DI]
 refine Jv (.inl ho) (by omega) (fun h=>by rw [h]) fun j hj=>?_
 rw [Nat.zero_add]
 exact (Xe (IW _) _).sees _
theorem iA (c:Nat×Nat×Nat):∀ j,j<3→((tC c).getD j .any).one=true:=fun j hj=>by
 match j,hj with
 | 0,_=>rfl
 | 1,_=>rfl
 | 2,_=>rfl
 | j+3,h=>omega
theorem kB (L:List V2) (k:Nat) (hs:Qk L k) (hk:k≤1000) (hp:C6 L):Fn Tryz.prog 263 [Xw L] (.tup [sb (CJ L),I 0]):=by
 have hl:=hp.1
 have cv:=aa L (fun i=>Nat.le_trans (hs i) hk) (by omega)
 rw [decide_eq_true hp] at cv
 have ca:=pi L (by omega)
 obtain ⟨T,hT⟩:∃ T,T=CJ L:=⟨_,rfl⟩
 rw [← hT]
 have h0:=DH hl.1 (by omega)
 have d0:(List.range L.length).Nodup:=List.nodup_range
 refine Fq Tryz.call263 Tryz.func263 7 [] [] [3,9] (by simp [Xh]) (Xi ?_)
 simp only [AS.start,↓X1,wF,seval]
 refine X0 cv rfl ?_
 simp only [↓X1,wF,seval]
 refine KI rfl ca (QM (fun o h=>absurd h (List.not_mem_nil)) (fun o ho=>((Kf _ _ _).2 o ho).2.2)) (fun id=>by simp) (Qn _) ?_
 have hlr:(List.range L.length).length=L.length:=List.length_range
 have hTc:T=Ay L (List.range L.length).length (List.range L.length):=by rw [hT,hlr]; rfl
 generalize hN:2*L.length=N
 generalize List.range L.length=R0 at *
 simp only [J3,↓X1,wF,seval]
 refine Xd (fun w:List (Nat×Nat×Nat)×List Nat=>⟨7,[],[Xw L,.any,.any,.any,.ref 0 0 0,.osl 2 w.1.length 3 0 w.1.length,.any],[],IL L N w.2 ++ [.row w.1.length (w.1.length*3) (Xt tC 3 (0,0,0) w.1)]⟩) (fun w=>Rok L w.2∧w.2.Nodup∧3≤w.2.length∧w.1.length+w.2.length≤L.length∧w.1 ++ Ay L w.2.length w.2=T) (fun w=>w.2.length) ([],R0) ⟨h0,d0,by show 3≤R0.length; omega,by simp [hlr],by rw [hTc]; rfl⟩
  (Sub.trans (Jk 5 3 (Xt tC 3 (0,0,0) []) rfl) (Xf rfl (by simp [AS.put,Xg]) (by simp [AS.put,Xn]) (by simp [AS.put,J3]))) ?_
 rintro ⟨D,R⟩ ⟨h,hd,h3,hDl,hDT⟩ next
 replace h:Rok L R:=h
 replace hd:R.Nodup:=hd
 replace h3:3≤R.length:=h3
 replace hDl:D.length+R.length≤L.length:=hDl
 replace hDT:D ++ Ay L R.length R=T:=hDT
 have hNR:R.length≤N:=by omega
 by_cases h4:3<R.length
 rotate_left
 ·have e3:R.length=3:=by omega
  rw [eg h4] at hDT
  have hap:=QR tC 3 (0,0,0) D (R.getD 0 0,R.getD 1 0,R.getD 2 0) (by omega)
  rw [hDT] at hap
  have hTl:T.length=D.length+1:=by rw [← hDT]; simp
  refine Xi ?_
  simp (disch:=omega) only [J3,List.cons_append,List.nil_append,DY,Kq,wD,↓X1,wF,seval]
  exact ⟨iA (R.getD 0 0,R.getD 1 0,R.getD 2 0),mR T rfl (by rw [hTl]; rfl) (by rw [hTl,← hap]; rfl) rfl (X9 _)⟩
 have hgo:=kK h hd h4
 obtain ⟨b1,b2,b3,b4⟩:=ER h hd h4
 refine Xi ?_
 simp (disch:=omega) only [J3,List.cons_append,List.nil_append,wD,↓X1,wF,seval]
 refine Xd (fun p:Nat=>⟨7,[],[Xw L,.any,.any,.any,.ref 0 0 0,.osl 2 D.length 3 0 D.length,I p],[],IL L N R ++ [.row D.length (D.length*3) (Xt tC 3 (0,0,0) D)]⟩) (fun p=>p≤R.length - 1∧∀ j,j<p→AR L R j=false) (fun p=>R.length - p) 0 ⟨by omega,fun j hj=>absurd hj (Nat.not_lt_zero j)⟩
  (Ku (by simp [Xg,I]) (by simp [J3])) ?_
 rintro p ⟨hp1,hno⟩ next2
 have hn:=h.len
 have ce:=pO L R p k h (by omega) hs (by omega)
 have cc:=pK L N R p k h hd hNR h4 (by omega) hs (by omega)
 have hlr:(R.eraseIdx p).length=R.length - 1:=by rw [List.length_eraseIdx,if_pos (by omega)]
 by_cases hgo2:p<R.length - 1∧AR L R p=false
 ·refine Xi ?_
  simp (disch:=omega) only [J3,List.cons_append,List.nil_append,wD,↓X1,wF,seval]
  refine JF ce rfl ⟨Hz,Qx (X9 _) rfl,trivial⟩ (Ar _) ?_
  simp (disch:=omega) only [hgo2.2,J3,List.cons_append,List.nil_append,wD,↓X1,wF,seval]
  exact next2 (p+1) _ ⟨by omega,CC.2 ⟨hno,hgo2.2⟩⟩ (by omega) (Ku (by simp [Xg,I]) (by simp [J3]))
 have hep:CN L R=p:=kT hp1 hno (by
  by_cases h1:p=R.length - 1
  ·exact .inl h1
  ·right
   cases he:AR L R p with
   | true=>rfl
   | false=>exact absurd ⟨by omega,he⟩ hgo2)
 have hD:(D ++ [H6 R p]) ++ Ay L (CK L R).length (CK L R)=T:=by rw [← hDT,hgo,hep,List.append_assoc]; rfl
 have hap:=QR tC 3 (0,0,0) D (H6 R p) (by omega)
 have hcs:ZZ L (R.length - 1) (R.eraseIdx p)=CK L R:=by unfold CK; rw [hep]
 rw [hcs] at cc
 have hDn:(D ++ [H6 R p]).length=D.length+1:=by simp
 have nx:=next (D ++ [H6 R p],CK L R)
 rw [List.length_append,List.length_singleton] at nx
 have htr:tC (H6 R p)=[I (nr R (p+R.length - 1)),I (R.getD p 0:Nat),I (nr R (p+R.length+1))]:=rfl
 have hone:=iA (H6 R p)
 rw [htr] at hap hone
 generalize D ++ [H6 R p]=D2 at *
 generalize CK L R=R2 at *
 generalize nr R (p+R.length - 1)=a at *
 generalize nr R (p+R.length+1)=c at *
 generalize R.getD p 0=b at *
 clear hgo hcs htr
 have bR:∀ a∈[AV.ref 0 0 0,I p],Kn 2 a:=fun a ha=>by
  simp only [List.mem_cons,List.not_mem_nil,or_false] at ha
  rcases ha with rfl | rfl
  ·have:Kn 2 (.ref 0 0 0)=True:=by simp [XA]
   exact this▸trivial
  ·exact X7 (X9 _)
 refine Xi ?_
 by_cases hl:p<R.length - 1
 have he:AR L R p=true:=by
  cases he:AR L R p with
  | true=>rfl
  | false=>exact absurd ⟨hl,he⟩ hgo2
 simp (disch:=omega) only [J3,List.cons_append,List.nil_append,wD,↓X1,wF,seval]
 refine JF ce rfl ⟨Hz,Qx (X9 _) rfl,trivial⟩ (Ar _) ?_
 simp (disch:=omega) only [he,J3,List.cons_append,List.nil_append,wD,↓X1,wF,seval]
 rotate_left
 simp (disch:=omega) only [J3,List.cons_append,List.nil_append,wD,↓X1,wF,seval]
 all_goals
  refine BR (H1:=IL L N R) (H1':=IL L N R2) (rest:=[.row D.length (D.length*3) (Xt tC 3 (0,0,0) D)]) rfl cc rfl rfl bR (fun o ho=>((Kf L N R).2 o ho).1) (fun o ho=>((Kf L N _).2 o ho).2.1) (fun o ho=>((Kf L N _).2 o ho).2.1) (QM (fun o ho=>((Kf L N _).2 o ho).2.2) (fun o ho=>((Kf L N _).2 o ho).2.2)) (Qn _) ?_
  simp (disch:=omega) only [J3,List.cons_append,List.nil_append,wD,↓X1,wF,seval]
  exact ⟨hone,nx _ ⟨b1,b2,b3,by show D.length+1+R2.length≤L.length; omega,hD⟩ (by show R2.length<R.length; omega) (Ku (by simp [Xg]) (by rw [← hap]; simp [J3,I]))⟩
end
end Go.Ab.N
