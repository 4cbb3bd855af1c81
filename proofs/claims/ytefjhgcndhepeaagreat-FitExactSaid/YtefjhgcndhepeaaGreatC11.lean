/- Contracts of functions of these chapters, for every argument that fits, and what they need. -/
import Derived.Test.YtefjhgcndhepeaaGreatC10
import Derived.Shelf.SlicesE.Delete
import Derived.Test.YtefjhgcndhepeaaGreatC3
import Derived.Test.YtefjhgcndhepeaaGreatC6
set_option linter.unusedSimpArgs false
set_option linter.unusedVariables false
open Nat renaming reducePow → Y1, reduceLT → Y2, reduceLeDiff → Y3, reduceEqDiff → Y4, reduceAdd → Y5, reduceMul → Y6, reduceSub → Y7, reduceBEq → Y8, reduceDiv → Y9, reduceMod → YA
namespace Go.Ab.N
open Go Go.RowKit Go.Proofs
noncomputable section
set_option maxRecDepth 10000
set_option maxHeartbeats 4000000
open Classical
noncomputable def js (A B:List (List V2)) (e:Rat) (n:Nat):V2:=(Bs (A.getD (n / B.length) []) (B.getD (n % B.length) []) e).1
noncomputable def Co (A B:List (List V2)) (e:Rat) (n:Nat):List V2:=(List.range n).map (js A B e)
theorem bS (A B:List (List V2)) (e:Rat) (n:Nat):(Co A B e n).length=n:=by unfold Co; rw [List.length_map,List.length_range]
theorem W2 (A B:List (List V2)) (e:Rat) (n:Nat):Co A B e (n+1)=Co A B e n ++ [js A B e n]:=by unfold Co; rw [List.range_succ,List.map_append]; rfl
theorem jt (A B:List (List V2)) (e:Rat) (i k:Nat) (hk:k<B.length):js A B e (i*B.length+k)=(Bs (A.getD i []) (B.getD k []) e).1:=by
 unfold js
 rw [show i*B.length+k=k+B.length*i by rw [Nat.mul_comm,Nat.add_comm],Nat.add_mul_div_left _ _ (by omega),Nat.add_mul_mod_self_left,Nat.div_eq_of_lt hk,Nat.mod_eq_of_lt hk,Nat.zero_add]
def FE (e:Rat) (W:List V2):List AO:=[.row 0 4 (Xn (qC e)),.row 0 1 (Xn [.sl 0 0 (fun _=>.any) true]),.row 0 1 (Xn [.bool false]),.row 0 1 (Xn [.osl 4 W.length 8 0 W.length]),.row W.length (W.length*8) (Xr vC 8 v0 W)]
theorem Hx (e:Rat) (W:List V2):FE e W=[.row 0 4 (Xn (qC e)),.row 0 1 (Xn [.sl 0 0 (fun _=>.any) true]),.row 0 1 (Xn [.bool false]),.row 0 1 (Xn [.osl 4 W.length 8 0 W.length]),.row W.length (W.length*8) (Xr vC 8 v0 W)]:=nrfl rfl
theorem N0 (e:Rat) (W:List V2):NR 5 (FE e W):=by
 have hvc:∀ a:V2,∀ x∈vC a,Settled x:=fun a=>by simp [vC,X4,X3]
 refine ⟨rfl,fun o ho=>?_⟩
 simp only [FE,List.mem_cons,List.not_mem_nil,or_false] at ho
 rcases ho with rfl | rfl | rfl | rfl | rfl
 ·exact ⟨by simp [qC,Xz],by simp,by simp⟩
 ·exact ⟨by simp [Xz],by simp,by simp⟩
 ·exact ⟨by simp [Xz],by simp,by simp⟩
 ·exact ⟨by simp [Xz],by simp,by simp⟩
 ·exact ⟨fun j _=>X9 (Xg (hvc _) _),by simp,by simp⟩
theorem mg {p:Nat→Prop}:∀ n,p n→∃ n,p n∧∀ m,m<n→¬ p m:=by
 intro n
 induction n using Nat.strongRecOn with
 | ind n ih =>
  intro h
  by_cases hm:∃ m,m<n∧p m
  ·obtain ⟨m,h1,h2⟩:=hm
   exact ih m h1 h2
  ·exact ⟨n,h,fun m hm' hp=>hm ⟨m,hm',hp⟩⟩
def Vp (e:Rat) (W:List V2):List AO:=[.row 0 4 (Xn (qC e)),.row 0 1 (Xn [.sl 0 0 (fun _=>.any) false]),.row 0 1 (Xn [.bool false]),.row 0 1 (Xn [.osl 4 W.length 8 0 W.length]),.row W.length (W.length*8) (Xr vC 8 v0 W)]
theorem O8 (e:Rat) (W:List V2):Vp e W=[.row 0 4 (Xn (qC e)),.row 0 1 (Xn [.sl 0 0 (fun _=>.any) false]),.row 0 1 (Xn [.bool false]),.row 0 1 (Xn [.osl 4 W.length 8 0 W.length]),.row W.length (W.length*8) (Xr vC 8 v0 W)]:=nrfl rfl
theorem TG (e:Rat) (W:List V2):NR 5 (Vp e W):=by
 have hvc:∀ a:V2,∀ x∈vC a,Settled x:=fun a=>by simp [vC,X4,X3]
 refine ⟨rfl,fun o ho=>?_⟩
 simp only [Vp,List.mem_cons,List.not_mem_nil,or_false] at ho
 rcases ho with rfl | rfl | rfl | rfl | rfl
 ·exact ⟨by simp [qC,Xz],by simp,by simp⟩
 ·exact ⟨by simp [Xz],by simp,by simp⟩
 ·exact ⟨by simp [Xz],by simp,by simp⟩
 ·exact ⟨by simp [Xz],by simp,by simp⟩
 ·exact ⟨fun j _=>X9 (Xg (hvc _) _),by simp,by simp⟩
theorem S3 {A B:List (List V2)} {e:Rat} (h:O4 A B e=false):∃ i k,i<A.length∧k<B.length∧Zz A B e i k=false∧∀ j l,(j<i∨j=i∧l<k)→l<B.length→Zz A B e j l=true:=by
 have h1:¬ ∀ i,i<A.length→O6 A B e i=true:=fun H=>by
  have:O4 A B e=true:=decide_eq_true H
  rw [h] at this; cases this
 have h2:∃ i,i<A.length∧O6 A B e i=false:=by
  apply Classical.byContradiction
  intro H
  refine h1 fun i hi=>?_
  cases hp:O6 A B e i with
  | true=>rfl
  | false=>exact absurd ⟨i,hi,hp⟩ H
 obtain ⟨i',hi'⟩:=h2
 obtain ⟨i,⟨hi,hp⟩,hmin⟩:=mg (p:=fun i=>i<A.length∧O6 A B e i=false) i' hi'
 have h4:∃ k,k<B.length∧Zz A B e i k=false:=by
  apply Classical.byContradiction
  intro H
  have:O6 A B e i=true:=decide_eq_true fun k hk=>by
   cases hq:Zz A B e i k with
   | true=>rfl
   | false=>exact absurd ⟨k,hk,hq⟩ H
  rw [hp] at this; cases this
 obtain ⟨k',hk'⟩:=h4
 obtain ⟨k,⟨hk,hq⟩,hmin2⟩:=mg (p:=fun k=>k<B.length∧Zz A B e i k=false) k' hk'
 refine ⟨i,k,hi,hk,hq,fun j l hjl hl=>?_⟩
 cases hv:Zz A B e j l with
 | true=>rfl
 | false =>
  rcases hjl with hj | ⟨rfl,hlk⟩
  ·exact absurd ⟨by omega,ir hl hv⟩ (hmin j hj)
  ·exact absurd ⟨hl,hv⟩ (hmin2 l hlk)
theorem ie (A B:List (List V2)) (e:Rat) (c:Nat) (ha:∀ i,i<A.length→Shp c (A.getD i [])) (hb:∀ i,i<B.length→Shp c (B.getD i [])) (h1:1≤c) (hc:c≤1000) (he:qb e≤10000) (la:A.length≤1000) (lb:B.length≤1000) :
  Fn Tryz.prog 201 [Tv A,Tv B,qA e] (.tup [.any,.bool (O4 A B e)]):=by
 have cp:=eN A B
 obtain ⟨R,hR⟩:∃ R,R=O4 A B e:=⟨_,rfl⟩
 rw [← hR]
 have s15:Settled (.fn 260 [KV A,KV B]):=J7 (by
  intro a ha
  simp only [List.mem_cons,List.not_mem_nil,or_false] at ha
  rcases ha with rfl | rfl <;> exact Fj _)
 refine Fq Tryz.call201 Tryz.func201 13 [16,17] [] [] (by simp [ZW,Xc]) (X0 1000 ?_)
 simp only [AS.start,XT,↓X2,wA,seval,wE]
 refine X1 cp rfl ?_
 simp only [XT,↓X2,wA,seval,wE]
 refine Run.sub (s':=⟨13,[16,17],[.any,.any,.any,.any,.any,.ref 0 0 0,.ref 1 0 0,.ref 2 0 0,.ref 3 0 0,.any,.any,.any,.any],[(15,.fn 260 [KV A,KV B])],FE e []⟩) ?_ ((QM 3 1 (fun _=>.sl 0 0 (fun _=>.any) true) rfl (Nat.le_refl _) (fun j hj=>by have e:j=0:=Nat.lt_one_iff.1 hj; subst e; rfl)).trans ((Er 3 8 (Xr vC 8 v0 []) rfl 1 (Nat.le_refl _)).trans ((QM 3 1 (Xn [.osl 4 0 8 0 0]) rfl (Nat.le_refl _) (fun j hj=>by have e:j=0:=Nat.lt_one_iff.1 hj; subst e; rfl)).trans (Xb rfl (by simp [Xh]) (by simp [Xi,Xp]) (by simp [FE,qC,X5])))))
 have hb1:∀ i k,i<A.length→k<B.length→i*B.length+k<1000*1000:=fun i k hi hk=>by
  have h2:i*B.length+B.length≤A.length*B.length:=by rw [← Nat.succ_mul]; exact Nat.mul_le_mul_right _ hi
  have h3:A.length*B.length≤1000*1000:=Nat.mul_le_mul la lb
  omega
 have hN:∃ N,(R=true∧N=A.length*B.length∧∀ i k,i<A.length→k<B.length→Zz A B e i k=true)∨(R=false∧∃ i0 k0,N=i0*B.length+k0∧i0<A.length∧k0<B.length∧Zz A B e i0 k0=false∧∀ j l,(j<i0∨j=i0∧l<k0)→l<B.length→Zz A B e j l=true):=by
  cases hq:O4 A B e with
  | true =>
   have h2:=of_decide_eq_true hq
   exact ⟨_,.inl ⟨hR.trans hq,rfl,fun i k hi hk=>of_decide_eq_true (h2 i hi) k hk⟩⟩
  | false =>
   obtain ⟨i0,k0,g1,g2,g3,g4⟩:=S3 hq
   exact ⟨_,.inr ⟨hR.trans hq,i0,k0,rfl,g1,g2,g3,g4⟩⟩
 obtain ⟨N,hN⟩:=hN
 refine D3 R (gf:=260) (caps:=[KV A,KV B]) (Hn:=cond R (FE e (Co A B e N)) (Vp e (Co A B e N))) rfl rfl rfl (fun t ht=>?_) ?_
 ·have yT:∀ i k,i<A.length→k<B.length→Zz A B e i k=true→YCall Tryz.prog t [Xs (A.getD i []),Xs (B.getD k [])] (FE e (Co A B e (i*B.length+k))) (.bool true) (FE e (Co A B e (i*B.length+k+1))):=fun i k hi hk hp=>by
   have cf:=NZ (A.getD i []) (B.getD k []) e c (ha i hi) (hb k hk) h1 hc he
   rw [show (Bs (A.getD i []) (B.getD k []) e).2=true from hp] at cf
   have hd:=jt A B e i k hk
   have hlt:=hb1 i k hi hk
   have hs:=W2 A B e (i*B.length+k)
   have hl:=bS A B e (i*B.length+k)
   rw [hs,hd]
   generalize Co A B e (i*B.length+k)=W at *
   generalize (Bs (A.getD i []) (B.getD k []) e).1=d at *
   have hap:=Qq vC 8 v0 W d (by omega)
   refine Df (str:=[]) (hcs:=[]) ht mixed (by kernel_rfl) (by kernel_rfl) rfl (fun p hp=>?_) (fun o ho=>((N0 e _).2 o ho).1) (fun l r hr=>?_)
   ·have hp':p=16∨p=17:=by simpa using hp
    rcases hp' with rfl | rfl <;> exact Nat.le_of_ble_eq_true rfl
   show Run _ _ ⟨13,[16,17],[.any,.any,.any,.any,.any,.ref 0 0 0,.ref 1 0 0,.ref 2 0 0,.ref 3 0 0,.any,.any,.any,.any],[(17,Xs (B.getD k [])),(16,Xs (A.getD i [])),(15,.fn 260 [KV A,KV B])],FE e W⟩
   refine X0 1000 ?_
   simp only [Hx,↓X2,wA,seval,wE]
   refine Ea hr ?_
   refine X0 1000 ?_
   simp only [↓X2,wA,seval,wE]
   refine X1 cf rfl ?_
   simp only [↓X2,wA,seval,wE]
   refine ⟨⟨Et _,by omega,by omega⟩,kS ?_⟩
   rw [List.length_append,List.length_singleton,← hap]
   rfl
  have hce:t.ce.H.length≤5:=by rw [ht.ch]; exact Nat.le_refl _
  rcases hN with ⟨rfl,rfl,hall⟩ | ⟨rfl,i0,k0,rfl,hi0,hk0,hno,hyes⟩
  ·exact T2 A B t 5 (fun n=>FE e (Co A B e n)) la lb (fun n=>N0 _ _) hce fun i k hi hk=>yT i k hi hk (hall i k hi hk)
  ·refine WH A B t 5 (fun n=>FE e (Co A B e n)) (Vp e (Co A B e (i0*B.length+k0))) la lb (fun n=>N0 _ _) hce i0 k0 hi0 hk0 (fun i k h hk=>yT i k (by omega) hk (hyes i k h hk)) ?_ (TG _ _)
   have cf:=NZ (A.getD i0 []) (B.getD k0 []) e c (ha i0 hi0) (hb k0 hk0) h1 hc he
   rw [show (Bs (A.getD i0 []) (B.getD k0 []) e).2=false from hno] at cf
   generalize Co A B e (i0*B.length+k0)=W at *
   generalize (Bs (A.getD i0 []) (B.getD k0 []) e).1=d at *
   refine IY false (str:=[]) (hcs:=[]) ht mixed (by kernel_rfl) (by kernel_rfl) rfl (fun p hp=>?_) (fun o ho=>((TG e _).2 o ho).1) (fun l r hr=>?_)
   ·have hp':p=16∨p=17:=by simpa using hp
    rcases hp' with rfl | rfl <;> exact Nat.le_of_ble_eq_true rfl
   show Run (SC _ _ _ _ _ _ _ _) _ ⟨13,[16,17],[.any,.any,.any,.any,.any,.ref 0 0 0,.ref 1 0 0,.ref 2 0 0,.ref 3 0 0,.any,.any,.any,.any],[(17,Xs (B.getD k0 [])),(16,Xs (A.getD i0 [])),(15,.fn 260 [KV A,KV B])],FE e W⟩
   refine X0 1000 ?_
   simp only [Hx,O8,↓X2,wA,seval,wE]
   refine SD hr ?_
   refine X0 1000 ?_
   simp only [↓X2,wA,seval,wE]
   refine X1 cf rfl ?_
   simp only [↓X2,wA,seval,wE]
   exact rO rfl
 ·rcases hN with ⟨rfl,rfl,hall⟩ | ⟨rfl,i0,k0,rfl,hi0,hk0,hno,hyes⟩
  ·show Run _ _ ⟨13,[16,17],[.any,.any,.any,.any,.any,.ref 0 0 0,.ref 1 0 0,.ref 2 0 0,.ref 3 0 0,.any,.any,.any,.any],[(15,.fn 260 [KV A,KV B])],FE e (Co A B e (A.length*B.length))⟩
   generalize Co A B e (A.length*B.length)=W
   show Run _ (_ :: _) _
   refine X0 1000 ?_
   simp only [Hx,↓X2,wA,seval,wE]
   exact K8 (x:=.osl 4 W.length 8 0 W.length) (y:=.bool true) rfl (by simp only [Jb,↓X2,wA,seval,wE]) (by simp only [Jb,↓X2,wA,seval,wE]) (XG B5 (Rs _)) ((X3 _).sees _)
  ·show Run _ _ ⟨13,[16,17],[.any,.any,.any,.any,.any,.ref 0 0 0,.ref 1 0 0,.ref 2 0 0,.ref 3 0 0,.any,.any,.any,.any],[(15,.fn 260 [KV A,KV B])],Vp e (Co A B e (i0*B.length+k0))⟩
   generalize Co A B e (i0*B.length+k0)=W
   show Run _ (_ :: _) _
   refine X0 1000 ?_
   simp only [O8,↓X2,wA,seval,wE]
   exact K8 (x:=.sl 0 0 (fun _=>.any) false) (y:=.bool false) rfl (by simp only [Jb,↓X2,wA,seval,wE]) (by simp only [Jb,↓X2,wA,seval,wE]) (XG B5 (Rs _)) ((X3 _).sees _)
def s8:Go.Shelf.Ren:=⟨fun _=>290,fun t=>if t=23 then 3 else t,fun x=>x⟩
theorem qw:SlLaysE.n45 Tryz.prog s8 where
 mixed:=mixed
 f45:=⟨Tryz.f290.name,rfl,Tryz.func290.trans (congrArg some rfl)⟩
 t0:=Tryz.underlying0
 a0:=Tryz.isAgg0
 z0:=Tryz.sizeOf0
 v0:=Tryz.zeroValue0
 t3:=Tryz.underlying3
 a3:=Tryz.isAgg3
 z3:=Tryz.sizeOf3
 v3:=Tryz.zeroValue3
 t4:=Tryz.underlying4
 a4:=Tryz.isAgg4
 z4:=Tryz.sizeOf4
 v4:=Tryz.zeroValue4
 t22:=Tryz.underlying22
 a22:=Tryz.isAgg22
 z22:=Tryz.sizeOf22
 v22:=Tryz.zeroValue22
 a23:=Tryz.isAgg3
 z23:=Tryz.sizeOf3
def Lj (x:Int):Value:=.int .i64 x
theorem OW (w:World) (b:Nat) (d:Array Int) (cs:Array Value) (el:TypeId) (fr:Nat×Nat) (h:w.heap[b]?=some (.cells cs el fr)):(Go.Sort.putRow Lj w b 0 d).heap[b]?=some (.cells (Go.Sort.putCells Lj 0 d cs) el fr):=by
 show (w.heap.modify b _)[b]?=_
 rw [Array.getElem?_modify,if_pos rfl,h]
 rfl
theorem EV (w:World) (b b':Nat) (d:Array Int) (h:b'≠b):(Go.Sort.putRow Lj w b 0 d).heap[b']?=w.heap[b']?:=by
 show (w.heap.modify b _)[b']?=_
 rw [Array.getElem?_modify,if_neg (Ne.symm h)]
theorem LN (o:AO) (R:List Int) (v i:Nat) (hi:i<R.length):HCall Tryz.prog 290 [.osl 1 v 1 0 R.length,I i,I ((i+1:Nat):Int)] [o,.row v R.length (Q3 I 0 R)] (.osl 1 (v+1) 1 0 (R.length - 1)) [o,.row (v+1) (R.length - 1) (Q3 I 0 (R.eraseIdx i))]:=by
 refine ⟨Tryz.call290,?_⟩
 rintro c vs hH hr ⟨hv1,hv2⟩
 have ho:c.H[1]?=some (.row v R.length (Q3 I 0 R)):=by rw [hH]; rfl
 have hinf:inf c.H 1=some v:=by simp [inf,ho,AO.info]
 have live:¬ stale c.H 1 v:=by
  rintro (⟨v'',h1,hlt⟩ | hd)
  ·rw [hinf] at h1; cases h1; omega
  ·simp [inf,hd,AO.info] at hinf
 obtain ⟨l,hl⟩:∃ l,vs=l:=⟨_,rfl⟩
 have hx:=hv2 0 (by simp)
 have hy:=hv2 1 (by simp)
 have hz:=hv2 2 (by simp)
 have e3:vs=#[vs.getD 0 undef,vs.getD 1 undef,vs.getD 2 undef]:=by
  have h3:vs.size=3:=hv1
  apply Array.ext
  ·simp [h3]
  ·intro j h1 h2
   match j,h1 with
   | 0,_=>simp [Array.getD,h3]
   | 1,_=>simp [Array.getD,h3]
   | 2,_=>simp [Array.getD,h3]
   | j+3,h=>omega
 rw [e3]
 generalize vs.getD 0 undef=x at *
 generalize vs.getD 1 undef=y at *
 generalize vs.getD 2 undef=z at *
 replace hx:Rep c x (.osl 1 v 1 0 R.length):=hx
 replace hy:Rep c y (I i):=hy
 replace hz:Rep c z (I ((i+1:Nat):Int)):=hz
 cases hy
 cases hz
 generalize hn:R.length=n at hx
 cases hx with
 | oslz _ _ _ _ a h=>omega
 | oslOld _ _ _ _ _ a cap h hs=>exact absurd hs live
 | oslzOld _ _ _ _ a hs=>exact absurd hs live
 | osl _ _ _ _ _ cap b sz h1 hg hcn hcap hmx =>
  subst hn
  rcases hr.row 1 _ _ _ ho with ⟨hg',_⟩ | ⟨b',sz',cs,el,hg',hh,hcs,hks,hnS,hcr⟩
  ·rw [hg'] at hg; cases hg
  rw [hg'] at hg
  cases hg
  have hcell:∀ j,j<R.length→cs.getD j undef=Lj (R.getD j 0):=fun j hj=>by
   have:=hcr j hj
   rw [show Q3 I 0 R j=I (R.getD j 0) from rfl] at this
   generalize cs.getD j undef=q at this ⊢
   cases this; rfl
  have hget:∀ j,j<R.length→R.toArray[j]! = R.getD j 0:=fun j hj=>by
   rw [getElem!_pos R.toArray j (by simpa using hj)]
   simp [List.getD_eq_getElem?_getD,hj]
  have hold:Go.Sort.Holds Lj c.w b 0 R.toArray:=fun j hj=>by
   have hj':j<R.length:=by simpa using hj
   refine ⟨?_,?_⟩
   ·rw [Ze hh (m:=R.length) (by omega) j hj',hcell j hj',hget j hj']
   ·unfold World.frozen?
    rw [hh]
    simp
  obtain ⟨_,i0,z0,hi0,hz1,_⟩:=KO md
  have key:=AnyE.slices_Delete qw Lj (fun _=>rfl) 0 (fun w=>Tryz.zeroValue3 w) i0 hi0 hz1 b 0 cap i (i+1) R.toArray c.w hold (by simpa using hcn) hmx (by omega) (by rw [List.size_toArray]; omega)
  rw [List.size_toArray] at key
  refine key.mono ?_
  rintro e w' ⟨rfl,q,rfl⟩
  obtain ⟨d,hd⟩:∃ d,d=(R.toArray.toList.take i ++ R.toArray.toList.drop (i+1) ++ List.replicate (i+1 - i) (0:Int)).toArray:=⟨_,rfl⟩
  rw [← hd]
  have hds:d.size=R.length:=by rw [hd]; simp; omega
  have hdj:∀ j,j<R.length - 1→d[j]! = (R.eraseIdx i).getD j 0:=fun j hj=>by
   rw [getElem!_pos d j (by omega)]
   subst hd
   simp only [List.getElem_toArray,List.getD_eq_getElem?_getD,List.getElem?_eraseIdx]
   by_cases h:j<i
   ·rw [List.getElem_append_left (by simp; omega),List.getElem_append_left (by simp; omega)]
    simp [h,show j<R.length by omega]
   ·rw [List.getElem_append_left (by simp; omega),List.getElem_append_right (by simp; omega)]
    have e1:i+1+(j - min i R.length)=j+1:=by omega
    simp [h,e1,show j+1<R.length by omega]
  have hcs2:(Go.Sort.putCells Lj 0 d cs).size=cs.size:=by simp [Go.Sort.putCells]
  have hset:(c.H.set 1 (.row (v+1) (R.length - 1) (Q3 I 0 (R.eraseIdx i))))[1]?=some (.row (v+1) (R.length - 1) (Q3 I 0 (R.eraseIdx i))):=by rw [hH]; rfl
  have hoth:∀ k,k≠1→(c.H.set 1 (.row (v+1) (R.length - 1) (Q3 I 0 (R.eraseIdx i))))[k]?=c.H[k]?:=fun k hk=>by simp [Ne.symm hk]
  have hinf':inf (c.H.set 1 (.row (v+1) (R.length - 1) (Q3 I 0 (R.eraseIdx i)))) 1=some (v+1):=by simp [inf,hset,AO.info]
  obtain ⟨g1,g2⟩:=Zm (c:=c) (c':=⟨Go.Sort.putRow Lj (Go.Sort.ahead c.w q) b 0 d,c.S,c.γ,c.H.set 1 (.row (v+1) (R.length - 1) (Q3 I 0 (R.eraseIdx i)))⟩) hr
   (id:=1) (ver:=v+1) (n:=R.length - 1) (b:=b) (sz:=sz) hset hoth rfl hg' (fun _ _=>rfl) (OW (Go.Sort.ahead c.w q) b d cs el (0,0) hh) (hcs2.trans hcs) (by omega)
   (fun b' hb' _=>EV (Go.Sort.ahead c.w q) b b' d hb') (by simp) rfl rfl rfl (.inr ⟨_,_,ho,rfl,hg'⟩) (.inr (.inr ⟨v,hinf,.inl (by omega)⟩)) (fun j hj=>by
    have e1:(Go.Sort.putCells Lj 0 d cs).getD j undef=Lj d[j]!:=by
     have h1:j<cs.size:=by omega
     have h2:j<d.size:=by omega
     simp [Go.Sort.putCells,Array.getD_eq_getD_getElem?,h1,h2]
    rw [e1,hdj j hj]
    exact .int _ _)
  rw [hH] at hinf' g1 g2
  rw [show R.length - (i+1 - i)=R.length - 1 by omega]
  exact ⟨_,_,_,rfl,.osl 1 (v+1) 1 0 (R.length - 1) cap b sz hinf' hg' (by omega) hcap hmx,g1,g2⟩
def zs (R:List Nat):List Int:=R.map fun n:Nat=>(n:Int)
theorem XD (R:List Nat):(zs R).length=R.length:=by unfold zs; rw [List.length_map]
theorem DV (R:List Nat) (j:Nat):(zs R).getD j 0=((R.getD j 0:Nat):Int):=by
 unfold zs
 rw [List.getD_eq_getElem?_getD,List.getElem?_map,List.getD_eq_getElem?_getD]
 cases R[j]? <;> rfl
theorem Rz (R:List Nat) (i:Nat):(zs R).eraseIdx i=zs (R.eraseIdx i):=by
 unfold zs
 apply List.ext_getElem?
 intro j
 simp only [List.getElem?_eraseIdx,List.getElem?_map]
 split <;> rfl
def gO (L:List V2) (R:List Nat):AV:=.ptr 2 (Xn [Xs L,X6 (zs R)]) 0
theorem XP (L:List V2) (R:List Nat):gO L R=.ptr 2 (Xn [Xs L,X6 (zs R)]) 0:=nrfl rfl
theorem ZV (L:List V2) (R:List Nat):Settled (gO L R):=QK fun j hj=>by
 match j,hj with
 | 0,_=>exact Xk L
 | 1,_=>exact X4 _
 | j+2,h=>omega
def oV (L:List V2) (R:List Nat):AV:=.ptr 1 (Xn [gO L R]) 0
theorem NC (L:List V2) (R:List Nat):oV L R=.ptr 1 (Xn [gO L R]) 0:=nrfl rfl
theorem D5 (L:List V2) (R:List Nat):Settled (oV L R):=QK fun j hj=>by
 obtain rfl:j=0:=by omega
 exact ZV L R
def nr (R:List Nat) (m:Nat):Nat:=R.getD (m % R.length) 0
theorem r6 (R:List Nat) (m:Nat):(zs R).getD (m % R.length) 0=((nr R m:Nat):Int):=DV R _
structure Rok (L:List V2) (R:List Nat):Prop where
 pos:0<R.length
 len:R.length<1000000
 mem:∀ j,R.getD j 0<L.length
 lenL:L.length<1000000
theorem HC (L:List V2) (R:List Nat) (k:Int) (m:Nat) (h:Rok L R) (hk:k+R.length=m) (hm:m<10000000) (h1:-10≤k) (h2:k<10000000):Fn Tryz.prog 295 [I k,oV L R] (I (nr R m)):=by
 obtain ⟨h0,hn,hmem,hL⟩:=h
 refine Fq Tryz.call295 Tryz.func295 4 [] [] [] (by simp [D5,Xa]) (X0 1000 ?_)
 have w1:IntKind.i64.wrap (k+R.length)=(m:Int):=by rw [IntKind.wrap_i64]; omega
 have hmod:(m:Int).tmod R.length=((m % R.length:Nat):Int):=rfl
 have hlt:m % R.length<R.length:=Nat.mod_lt _ h0
 have f1:(((m % R.length:Nat):Int)<R.length)=True:=eq_true (by omega)
 have f2:(m % R.length<R.length)=True:=eq_true hlt
 have f3:(m % R.length+1≤R.length)=True:=eq_true (by omega)
 have f6:((R.length:Int)=0)=False:=eq_false (by omega)
 have f6':(R.length=0)=False:=eq_false (by omega)
 have w2:IntKind.i64.wrap (((m % R.length:Nat):Int))=((m % R.length:Nat):Int):=by rw [IntKind.wrap_i64]; omega
 have v1:=r6 R m
 simp only [AS.start,NC,XP,X5,XD,w1,w2,hmod,f1,f2,f3,f6,f6',v1,Int.toNat_natCast,↓X2,wA,seval,wE]
 exact Xv rfl rfl (Xa _) rfl
theorem FH (L:List V2) (R:List Nat) (p:Nat) (h:Rok L R) (hp:p<1000000):Fn Tryz.prog 289 [gO L R,I p] (.tup [I (nr R (p+R.length - 1)),I (nr R (p+R.length+1))]):=by
 have c1:=HC L R ((p:Int) - 1) (p+R.length - 1) h (by have:=h.pos; omega) (by have:=h.len; omega) (by omega) (by omega)
 have c2:=HC L R ((p:Int)+1) (p+R.length+1) h (by omega) (by have:=h.len; omega) (by omega) (by omega)
 have w1:IntKind.i64.wrap ((p:Int) - 1)=(p:Int) - 1:=by rw [IntKind.wrap_i64]; omega
 have w2:IntKind.i64.wrap ((p:Int)+1)=(p:Int)+1:=by rw [IntKind.wrap_i64]; omega
 have hl:SeesL [.row 0 1 (Xn [.ptr 2 (Xn [Xs L,X6 (zs R)]) 0])] ([.ref 0 0 0]:List AV) [oV L R]:=⟨Kw (.inl rfl) (by omega) (fun j hj=>by
  obtain rfl:j=0:=by omega
  exact (ZV L R).sees _),trivial⟩
 refine Fq Tryz.call289 Tryz.func289 7 [] [] [] (by simp [ZV,Xa]) (X0 1000 ?_)
 simp only [AS.start,XP,w1,w2,↓X2,wA,seval,wE]
 refine Jo c1 rfl ⟨Qy (Xa _) rfl,hl⟩ (Bu _ _) ?_
 simp only [w1,w2,↓X2,wA,seval,wE]
 refine Jo c2 rfl ⟨Qy (Xa _) rfl,hl⟩ (Bu _ _) ?_
 simp only [w1,w2,↓X2,wA,seval,wE]
 exact PK rfl rfl rfl (Xa _) (Xa _) rfl rfl
def RB (L:List V2) (R:List Nat) (p:Nat):Int:=Jj (L.getD (nr R (p+R.length - 1)) v0) (L.getD (R.getD p 0) v0) (L.getD (nr R (p+R.length+1)) v0)
theorem UF (L:List V2) (R:List Nat) (p k:Nat) (h:Rok L R) (hp:p<R.length) (hs:Qt L k) (hk:k≤10000):Fn Tryz.prog 288 [gO L R,I p] (I (RB L R p)):=by
 have c1:=FH L R p h (by have:=h.len; omega)
 have c2:=KS (L.getD (nr R (p+R.length - 1)) v0) (L.getD (R.getD p 0) v0) (L.getD (nr R (p+R.length+1)) v0) (by have:=hs (nr R (p+R.length - 1)); unfold vs; omega) (by have:=hs (R.getD p 0); unfold vs; omega) (by have:=hs (nr R (p+R.length+1)); unfold vs; omega)
 obtain ⟨h0,hn,hmem,hL⟩:=h
 have m1:=hmem ((p+R.length - 1) % R.length)
 have m2:=hmem ((p+R.length+1) % R.length)
 have m3:=hmem p
 change nr R (p+R.length - 1)<L.length at m1
 change nr R (p+R.length+1)<L.length at m2
 unfold RB
 generalize nr R (p+R.length - 1)=a at *
 generalize nr R (p+R.length+1)=c at *
 have v2:=DV R p
 generalize R.getD p 0=b at *
 have f1:((p:Int)<R.length)=True:=eq_true (by omega)
 have f2:(p<R.length)=True:=eq_true hp
 have f3:(p+1≤R.length)=True:=eq_true (by omega)
 have a1:((a:Int)<L.length)=True:=eq_true (by omega)
 have a2:(a<L.length)=True:=eq_true m1
 have a3:(a*8+8≤L.length*8)=True:=eq_true (by omega)
 have b1:((b:Int)<L.length)=True:=eq_true (by omega)
 have b2:(b<L.length)=True:=eq_true m3
 have b3:(b*8+8≤L.length*8)=True:=eq_true (by omega)
 have e1:((c:Int)<L.length)=True:=eq_true (by omega)
 have e2:(c<L.length)=True:=eq_true m2
 have e3:(c*8+8≤L.length*8)=True:=eq_true (by omega)
 have va:=vF L a
 have vb:=vF L b
 have vc:=vF L c
 refine Fq Tryz.call288 Tryz.func288 7 [] [] [] (by simp [ZV,Xa]) (X0 1000 ?_)
 simp only [AS.start,XP,X7,X5,↓X2,wA,seval,wE]
 refine X1 c1 rfl ?_
 simp only [XP,X7,X5,XD,f1,f2,f3,a1,a2,a3,b1,b2,b3,e1,e2,e3,va,vb,vc,v2,Int.toNat_natCast,↓X2,wA,seval,wE]
 refine X1 c2 rfl ?_
 simp only [↓X2,wA,seval,wE]
 exact Xv rfl rfl (Xa _) rfl
theorem dH (s:List Int) (v:Int) (hl:s.length<1048576):Fn Tryz.prog 297 [X6 s,I v] (I (GR (fun x=>decide (v=x)) s)):=by
 refine Fq Tryz.call297 Tryz.func297 6 [6,7,8] [] [] (by simp [X4,Xa]) (X0 1000 ?_)
 simp only [AS.start,X5,↓X2,wA,seval,wE]
 refine Xf (fun j:Nat=>⟨6,[6,7,8],[X6 s,I v,.any,.any,.any,.any],[(6,X6 s),(7,I s.length),(8,I j)],[]⟩) (fun j=>j≤s.length∧∀ i,i<j→(fun x=>decide (v=x)) (s.getD i 0)=false) (fun j=>s.length - j) 0 ⟨by omega,by omega⟩
  (Xb rfl (by simp [Xh,X5,I]) (by simp [Xi,Xp,X5,I]) rfl) ?_
 rintro j ⟨hj,hno⟩ next
 have w1:=wj j (by omega)
 refine X0 1000 ?_
 simp only [X5,w1,↓X2,wA,seval,wE]
 refine ⟨fun h=>⟨h,h,?_⟩,fun h=>Xv (v:=I (-1)) rfl rfl (Xa _) ?_⟩
 ·refine ⟨fun ht=>Xv (v:=I j) rfl rfl (Xa _) ?_,fun hf=>next (j+1) _ ⟨by omega,fun i hi=>?_⟩ (by omega) (Xb rfl ?_ ?_ rfl)⟩
  ·rw [EW h (decide_eq_true ht) hno]
  ·by_cases e:i=j
   ·rw [e]; exact decide_eq_false hf
   ·exact hno i (by omega)
  ·simp [Xh,X5,I]
  ·simp [Xi,Xp,X5,I]
 ·rw [FU fun i hi=>hno i (by omega)]
def T4 (R:List Nat) (x:Int):Nat:=(GR (fun y=>decide (x=y)) (zs R)).toNat
theorem Nr {R:List Nat} (hd:R.Nodup) {p:Nat} (hp:p<R.length):GR (fun y=>decide (((R.getD p 0:Nat):Int)=y)) (zs R)=p:=by
 have at_:∀ i (hi:i<R.length),R.getD i 0=R[i]:=fun i hi=>by rw [List.getD_eq_getElem?_getD,List.getElem?_eq_getElem hi]; rfl
 refine EW (by rw [XD]; exact hp) (by rw [DV]; simp) fun i hi=>?_
 rw [DV]
 refine decide_eq_false fun e=>?_
 rw [at_ i (by omega),at_ p hp] at e
 have e2:R[p]=R[i]:=by omega
 have:=(List.getElem_inj (i:=p) (j:=i) (h₀:=hp) (h₁:=by omega) hd).1 e2
 omega
theorem VS (L:List V2) (R:List Nat) (x:Int) (k:Nat) (h:Rok L R) (hd:R.Nodup) (hx:x∈zs R) (hs:Qt L k) (hk:k≤10000):Fn Tryz.prog 296 [I x,oV L R] (.bool (decide (RB L R (T4 R x)=0))):=by
 obtain ⟨p,hp,rfl⟩:∃ p,p<R.length∧((R.getD p 0:Nat):Int)=x:=by
  obtain ⟨i,hi,rfl⟩:=List.getElem_of_mem hx
  refine ⟨i,by rw [XD] at hi; exact hi,?_⟩
  rw [← DV,List.getD_eq_getElem?_getD,List.getElem?_eq_getElem hi]; rfl
 have c1:=dH (zs R) ((R.getD p 0:Nat):Int) (by rw [XD]; have:=h.len; omega)
 have e:T4 R ((R.getD p 0:Nat):Int)=p:=by unfold T4; rw [Nr hd hp]; rfl
 rw [Nr hd hp] at c1
 rw [e]
 have c2:=UF L R p k h hp hs hk
 refine Fq Tryz.call296 Tryz.func296 4 [] [] [] (by simp [D5,Xa]) (X0 1000 ?_)
 simp only [AS.start,NC,XP,X5,XD,↓X2,wA,seval,wE]
 refine X1 c1 (by simp only [X5,XD]; rfl) ?_
 simp only [NC,XP,X5,XD,↓X2,wA,seval,wE]
 refine X1 c2 (by simp only [XP,X5,XD]; rfl) ?_
 simp only [↓X2,wA,seval,wE]
 exact Xv rfl rfl (X3 _) rfl
def A9 (L:List V2) (R:List Nat):Nat:=(List.range R.length).findIdx fun p=>decide (RB L R p=0)
theorem ON (L:List V2) (R:List Nat):A9 L R≤R.length:=by
 have:=List.findIdx_le_length (xs:=List.range R.length) (p:=fun p=>decide (RB L R p=0))
 rw [List.length_range] at this
 exact this
theorem We {L:List V2} {R:List Nat} (h:A9 L R<R.length):RB L R (A9 L R)=0:=by
 have:=List.findIdx_getElem (xs:=List.range R.length) (p:=fun p=>decide (RB L R p=0)) (w:=by rw [List.length_range]; exact h)
 rw [List.getElem_range] at this
 exact of_decide_eq_true this
theorem OO {L:List V2} {R:List Nat} {p:Nat} (h:p<A9 L R):RB L R p≠0:=by
 have h2:=ON L R
 have:=List.not_of_lt_findIdx (xs:=List.range R.length) (p:=fun p=>decide (RB L R p=0)) (i:=p) h
 rw [List.getElem_range] at this
 exact of_decide_eq_false this
def AF (L:List V2):Nat→List Nat→List Nat
 | 0,R=>R
 | f+1,R=>if 3<R.length∧A9 L R<R.length then AF L f (R.eraseIdx (A9 L R)) else R
theorem jh {L:List V2} {R:List Nat} (hd:R.Nodup):GR (fun x=>decide (RB L R (T4 R x)=0)) (zs R)=if A9 L R<R.length then ((A9 L R:Nat):Int) else -1:=by
 have at_:∀ p,p<R.length→T4 R ((zs R).getD p 0)=p:=fun p hp=>by unfold T4; rw [DV,Nr hd hp]; rfl
 split
 ·rename_i h
  refine EW (by rw [XD]; exact h) ?_ fun i hi=>?_
  ·rw [at_ _ h]; exact decide_eq_true (We h)
  ·rw [at_ _ (by omega)]; exact decide_eq_false (OO hi)
 ·rename_i h
  refine FU fun i hi=>?_
  rw [XD] at hi
  have:=ON L R
  rw [at_ _ hi]; exact decide_eq_false (OO (by omega))
def Iz (L:List V2) (N:Nat) (R:List Nat):List AO:=[.row 0 2 (Xn [Xs L,.osl 1 (N - R.length) 1 0 R.length]),.row (N - R.length) R.length (Q3 I 0 (zs R))]
theorem J2 (L:List V2) (N:Nat) (R:List Nat):Iz L N R=[.row 0 2 (Xn [Xs L,.osl 1 (N - R.length) 1 0 R.length]),.row (N - R.length) R.length (Q3 I 0 (zs R))]:=nrfl rfl
theorem Ka (L:List V2) (N:Nat) (R:List Nat):NR 2 (Iz L N R):=by
 refine ⟨rfl,fun o ho=>?_⟩
 have bL:Kd 2 (Xs L)=True:=eq_true (X9 (Xk L))
 simp only [Iz,List.mem_cons,List.not_mem_nil,or_false] at ho
 rcases ho with rfl | rfl
 ·exact ⟨by simp [Xz,bL],by simp,by simp⟩
 ·exact ⟨fun j _=>X9 (Xa _),by simp,by simp⟩
theorem Ho {L:List V2} {N:Nat} {R:List Nat} {rest:List AO}:Jn (Iz L N R ++ rest) (.ref 0 0 0) (gO L R):=Kw (.inl rfl) (by omega) fun j hj=>by
 match j,hj with
 | 0,_=>exact (Xk L).sees _
 | 1,_ =>
  show Jn _ (.osl 1 (N - R.length) 1 0 R.length) (X6 (zs R))
  have:=ME (l:=zs R) (H:=Iz L N R ++ rest) (id:=1) (ver:=N - R.length) (n:=R.length) rfl (by rw [XD]; exact Nat.le_refl _)
  rw [XD] at this
  exact this
 | j+2,h=>omega
theorem PW {L:List V2} {N:Nat} {R:List Nat} {rest:List AO}:Jn (Iz L N R ++ rest) (.osl 1 (N - R.length) 1 0 R.length) (X6 (zs R)):=by
 have:=ME (l:=zs R) (H:=Iz L N R ++ rest) (id:=1) (ver:=N - R.length) (n:=R.length) rfl (by rw [XD]; exact Nat.le_refl _)
 rw [XD] at this
 exact this
theorem qO {P:Program} {fn:Func} {str hcs:List Nat} {m:Nat} {H:List AO} {s:AS} (hr:fn.results=#[]) (hH:s.h.take m=H):RetOk (Lk P fn str hcs m (.tup []) H) s :=
 ⟨.tup [],by show Ku P fn s=_; simp [Ku,hr,QR,Zf],rfl,hH⟩
theorem oT {P:Program} {fn:Func} {str hcs:List Nat} {m:Nat} {H:List AO} {s:AS} (hr:fn.results=#[]) (hH:s.h.take m=H):RetE (Lk P fn str hcs m (.tup []) H) s :=
 ⟨.tup [],by show Ku P fn s=_; simp [Ku,hr,QR,Zf],rfl,hH⟩
theorem Dx {L:List V2} {R:List Nat} {q:Nat} (h:Rok L R) (h3:3<R.length) (hq:q<R.length):Rok L (R.eraseIdx q):=by
 obtain ⟨h0,hn,hmem,hL⟩:=h
 have hlen:(R.eraseIdx q).length=R.length - 1:=by rw [List.length_eraseIdx,if_pos hq]
 refine ⟨by omega,by omega,fun j=>?_,hL⟩
 rw [List.getD_eq_getElem?_getD,List.getElem?_eraseIdx]
 split
 ·rw [← List.getD_eq_getElem?_getD]; exact hmem j
 ·rw [← List.getD_eq_getElem?_getD]; exact hmem (j+1)
theorem aZ (L:List V2) (N:Nat) (R0:List Nat) (k:Nat) (h:Rok L R0) (hd:R0.Nodup) (hN:R0.length≤N) (hs:Qt L k) (hk:k≤10000):HCall Tryz.prog 291 [.ref 0 0 0] (Iz L N R0) (.tup []) (Iz L N (AF L R0.length R0)):=by
 have bL:Kd 3 (Xs L)=True:=eq_true (X9 (Xk L))
 refine HCall.introC (fn:=Tryz.f291) Tryz.call291 Tryz.func291 rfl mixed 3 [] [4,50000001,5004] [4] (by kernel_rfl) (Nat.le_of_ble_eq_true rfl) (X9 (R8 (by simp))) (fun o ho=>((Ka _ _ _).2 o ho).1) (X0 1000 ?_)
 simp only [AS.start,J2,↓X2,wA,seval,wE]
 refine Xf (fun R:List Nat=>⟨3,[],[.any,.ref 2 0 0,.any],[],Iz L N R ++ [.con 0 1 (Xn [.ref 0 0 0])]⟩) (fun R=>Rok L R∧R.Nodup∧R.length≤N∧AF L R.length R=AF L R0.length R0) (fun R=>R.length) R0 ⟨h,hd,hN,rfl⟩
  (Sub.trans (Qu 2 rfl) (Xb rfl (by simp [Xh]) (by simp [Xi]) (by simp [Iz]))) ?_
 rintro R ⟨hR,hdR,hNR,hcl⟩ next
 have hR':=hR
 obtain ⟨h0,hn,hmem,hL⟩:=hR'
 by_cases h3:3<R.length
 rotate_left
 ·have e:AF L R.length R=R:=by
   cases hl:R.length with
   | zero=>rfl
   | succ n=>unfold AF; rw [if_neg (by omega)]
  rw [e] at hcl
  have f1:((3:Int)<R.length)=False:=eq_false (by omega)
  refine X0 1000 ?_
  simp only [J2,List.cons_append,List.nil_append,f1,↓X2,wA,seval,wE]
  rw [← hcl]
  exact oT rfl rfl
 have f1:((3:Int)<R.length)=True:=eq_true (by omega)
 have ci:=M4 (zs R) 296 [oV L R] (fun x=>decide (RB L R (T4 R x)=0)) (by rw [XD]; omega) (fun a ha=>by rw [List.mem_singleton.1 ha]; exact D5 L R) (fun x hx=>VS L R x k hR hdR hx hs hk)
 rw [jh hdR] at ci
 have sB:Jn (Iz L N R ++ [.con 0 1 (Xn [.ref 0 0 0])]) (.ref 2 0 0) (oV L R):=Kw (.inr rfl) (by omega) fun j hj=>by
  obtain rfl:j=0:=by omega
  exact Ho
 by_cases hq:A9 L R<R.length
 rotate_left
 ·have e:AF L R.length R=R:=by
   cases hl:R.length with
   | zero=>rfl
   | succ n=>unfold AF; rw [if_neg (by omega)]
  rw [e] at hcl
  rw [if_neg hq] at ci
  refine X0 1000 ?_
  simp only [J2,List.cons_append,List.nil_append,f1,↓X2,wA,seval,wE]
  refine Jo ci rfl ⟨PW,AZ ⟨sB,trivial⟩,trivial⟩ (Bu _ _) ?_
  simp only [show ((-1:Int)<0)=True from eq_true (by omega),↓X2,wA,seval,wE]
  rw [← hcl]
  exact qO rfl rfl
 rw [if_pos hq] at ci
 have hlq:∀ q,q<R.length→(R.eraseIdx q).length=R.length - 1:=fun q hq=>by rw [List.length_eraseIdx,if_pos hq]
 have ecl:AF L R.length R=AF L (R.eraseIdx (A9 L R)).length (R.eraseIdx (A9 L R)):=by
  rw [hlq _ hq]
  cases hl:R.length with
  | zero=>omega
  | succ n =>
   show (if 3<R.length∧A9 L R<R.length then AF L n (R.eraseIdx (A9 L R)) else R)=_
   rw [if_pos ⟨h3,hq⟩]; rfl
 rw [ecl] at hcl
 generalize A9 L R=q at *
 have hl:=hlq q hq
 have f2:((q:Int)<0)=False:=eq_false (by omega)
 have w1:=wj q (by omega)
 have cd:=LN (.row 0 2 (Xn [Xs L,.osl 1 (N - R.length) 1 0 R.length])) (zs R) (N - R.length) q (by rw [XD]; exact hq)
 rw [XD,Rz] at cd
 refine X0 1000 ?_
 simp only [J2,List.cons_append,List.nil_append,f1,↓X2,wA,seval,wE]
 refine Jo ci rfl ⟨PW,AZ ⟨sB,trivial⟩,trivial⟩ (Bu _ _) ?_
 simp only [w1,f2,↓X2,wA,seval,wE]
 have o2:∀ o∈[AO.row 0 2 (Xn [Xs L,.osl 1 (N - R.length) 1 0 R.length]),.row (N - R.length+1) (R.length - 1) (Q3 I 0 (zs (R.eraseIdx q)))],o≠.unborn∧∀ v n f,o≠.con v n f:=fun o ho=>by
  simp only [List.mem_cons,List.not_mem_nil,or_false] at ho
  rcases ho with rfl | rfl <;> exact ⟨by simp,by simp⟩
 have bA:∀ a∈[AV.osl 1 (N - R.length) 1 0 R.length,I q,I ((q+1:Nat):Int)],Kd 2 a:=fun a ha=>by
  simp only [List.mem_cons,List.not_mem_nil,or_false] at ha
  rcases ha with rfl | rfl | rfl
  ·exact H3 (by omega)
  ·exact X9 (Xa _)
  ·exact X9 (Xa _)
 refine BJ (H1:=Iz L N R) (H1':=[AO.row 0 2 (Xn [Xs L,.osl 1 (N - R.length) 1 0 R.length]),.row (N - R.length+1) (R.length - 1) (Q3 I 0 (zs (R.eraseIdx q)))]) (rest:=[.con 0 1 (Xn [.ref 0 0 0])]) rfl cd rfl rfl bA (fun o ho=>((Ka L N R).2 o ho).1) (fun o ho=>((Ka L N R).2 o ho).2.1) (fun o ho=>(o2 o ho).1) (QI (fun o ho=>((Ka L N R).2 o ho).2.2) (fun o ho=>(o2 o ho).2)) (Qc _) ?_
 simp only [List.cons_append,List.nil_append,↓X2,wA,seval,wE]
 exact next (R.eraseIdx q) _ ⟨Dx hR h3 hq,hdR.eraseIdx q,by omega,hcl⟩ (by omega) (Xb rfl (by simp [Xh]) (by simp [Xi]) (by rw [J2,hl,show N - (R.length - 1)=N - R.length+1 by omega]; rfl))
def ol (a b c p:V2):Prop:=0≤Jj a b p∧0≤Jj b c p∧0≤Jj c a p
def DL (L:List V2) (a b c k:Nat):Prop:=k=a∨k=c∨k=b∨¬ ol (L.getD a v0) (L.getD b v0) (L.getD c v0) (L.getD k v0)
def CA (L:List V2) (R:List Nat) (p:Nat):Bool:=decide (0<RB L R p∧∀ j,j<R.length→DL L (nr R (p+R.length - 1)) (R.getD p 0) (nr R (p+R.length+1)) (R.getD j 0))
def Lv (A B C:V2):AV:=.sl 3 24 (Xn [.bool (decide (A.x.num<0)),X6 (X8 A.x.num.natAbs),.bool false,X6 (X8 (qd A.x)),.bool (decide (A.y.num<0)),X6 (X8 A.y.num.natAbs),.bool false,X6 (X8 (qd A.y)),.bool (decide (B.x.num<0)),X6 (X8 B.x.num.natAbs),.bool false,X6 (X8 (qd B.x)),.bool (decide (B.y.num<0)),X6 (X8 B.y.num.natAbs),.bool false,X6 (X8 (qd B.y)),.bool (decide (C.x.num<0)),X6 (X8 C.x.num.natAbs),.bool false,X6 (X8 (qd C.x)),.bool (decide (C.y.num<0)),X6 (X8 C.y.num.natAbs),.bool false,X6 (X8 (qd C.y))]) true
theorem XN (A B C:V2):Lv A B C=.sl 3 24 (Xn [.bool (decide (A.x.num<0)),X6 (X8 A.x.num.natAbs),.bool false,X6 (X8 (qd A.x)),.bool (decide (A.y.num<0)),X6 (X8 A.y.num.natAbs),.bool false,X6 (X8 (qd A.y)),.bool (decide (B.x.num<0)),X6 (X8 B.x.num.natAbs),.bool false,X6 (X8 (qd B.x)),.bool (decide (B.y.num<0)),X6 (X8 B.y.num.natAbs),.bool false,X6 (X8 (qd B.y)),.bool (decide (C.x.num<0)),X6 (X8 C.x.num.natAbs),.bool false,X6 (X8 (qd C.x)),.bool (decide (C.y.num<0)),X6 (X8 C.y.num.natAbs),.bool false,X6 (X8 (qd C.y))]) true:=nrfl rfl
theorem nL (L:List V2) (R:List Nat) (p k:Nat) (h:Rok L R) (hp:p<R.length) (hs:Qt L k) (hk:k≤10000):Fn Tryz.prog 274 [gO L R,I p] (.bool (CA L R p)):=by
 have c1:=UF L R p k h hp hs hk
 have c2:=FH L R p h (by have:=h.len; omega)
 obtain ⟨h0,hn,hmem,hL⟩:=h
 have m1:=hmem ((p+R.length - 1) % R.length)
 have m2:=hmem ((p+R.length+1) % R.length)
 have m3:=hmem p
 change nr R (p+R.length - 1)<L.length at m1
 change nr R (p+R.length+1)<L.length at m2
 have hear:CA L R p=decide (0<RB L R p∧∀ j,j<R.length→DL L (nr R (p+R.length - 1)) (R.getD p 0) (nr R (p+R.length+1)) (R.getD j 0)):=rfl
 generalize CA L R p=E at *
 generalize RB L R p=S at *
 generalize nr R (p+R.length - 1)=a at *
 generalize nr R (p+R.length+1)=c at *
 have v2:=DV R p
 generalize R.getD p 0=b at *
 have f1:((p:Int)<R.length)=True:=eq_true (by omega)
 have f2:(p<R.length)=True:=eq_true hp
 have f3:(p+1≤R.length)=True:=eq_true (by omega)
 have a1:((a:Int)<L.length)=True:=eq_true (by omega)
 have a2:(a<L.length)=True:=eq_true m1
 have a3:(a*8+8≤L.length*8)=True:=eq_true (by omega)
 have b1:((b:Int)<L.length)=True:=eq_true (by omega)
 have b2:(b<L.length)=True:=eq_true m3
 have b3:(b*8+8≤L.length*8)=True:=eq_true (by omega)
 have e1:((c:Int)<L.length)=True:=eq_true (by omega)
 have e2:(c<L.length)=True:=eq_true m2
 have e3:(c*8+8≤L.length*8)=True:=eq_true (by omega)
 have va:=vF L a
 have vb:=vF L b
 have vc:=vF L c
 refine Fq Tryz.call274 Tryz.func274 11 [52,53,54,77,78,79] [] [] (by simp [ZV,Xa]) (X0 1000 ?_)
 simp only [AS.start,XP,X7,X5,↓X2,wA,↓reduceIte,reduceIte,reduceCtorEq,Y1,Y2,Y3,Y4,Y5,Y6,Y7,Y8,Y9,YA,wE]
 refine X1 c1 rfl ?_
 by_cases hS:S≤0
 ·have g1:(S≤0)=True:=eq_true hS
  have hE:E=false:=by rw [hear]; exact decide_eq_false fun hh=>by omega
  simp only [XP,X7,X5,g1,↓X2,wA,↓reduceIte,reduceIte,reduceCtorEq,Y1,Y2,Y3,Y4,Y5,Y6,Y7,Y8,Y9,YA,wE]
  exact Xv (v:=.bool false) rfl rfl (X3 _) (by rw [hE])
 have g1:(S≤0)=False:=eq_false hS
 simp only [XP,X7,X5,g1,↓X2,wA,↓reduceIte,reduceIte,reduceCtorEq,Y1,Y2,Y3,Y4,Y5,Y6,Y7,Y8,Y9,YA,wE]
 refine X1 c2 rfl ?_
 simp only [XP,X7,X5,XD,f1,f2,f3,a1,a2,a3,b1,b2,b3,e1,e2,e3,va,vb,vc,v2,Int.toNat_natCast,↓X2,wA,↓reduceIte,reduceIte,reduceCtorEq,Y1,Y2,Y3,Y4,Y5,Y6,Y7,Y8,Y9,YA,wE]
 have sA:=hs a
 have sB:=hs b
 have sC:=hs c
 generalize hA:L.getD a v0=A at *
 generalize hB:L.getD b v0=B at *
 generalize hC:L.getD c v0=C at *
 have hfree:∀ q,DL L a b c q=(q=a∨q=c∨q=b∨¬ ol A B C (L.getD q v0)):=fun q=>by unfold DL; rw [hA,hB,hC]
 refine Xf (fun j:Nat=>⟨11,[52,53,54,77,78,79],[gO L R,I p,.any,.any,.any,I a,I c,Lv A B C,.any,.any,.any],[(52,X6 (zs R)),(53,I R.length),(54,I j)],[]⟩) (fun j=>j≤R.length∧∀ i,i<j→DL L a b c (R.getD i 0)) (fun j=>R.length - j) 0 ⟨by omega,fun i hi=>absurd hi (Nat.not_lt_zero i)⟩
  (Xb rfl (by simp [Xh,XP,X7,X5,XD,XN,I]) (by simp [Xi,Xp,X5,XD,I]) rfl) ?_
 rintro j ⟨hj,hno⟩ next
 have w1:=wj j (by omega)
 by_cases hj2:j<R.length
 rotate_left
 ·obtain rfl:j=R.length:=by omega
  have hE:E=true:=by rw [hear]; exact decide_eq_true ⟨by omega,hno⟩
  refine X0 1000 ?_
  simp only [XP,X7,X5,XD,XN,Int.lt_irrefl,Nat.lt_irrefl,↓X2,wA,↓reduceIte,reduceIte,reduceCtorEq,Y1,Y2,Y3,Y4,Y5,Y6,Y7,Y8,Y9,YA,wE]
  exact Xv (v:=.bool true) rfl rfl (X3 _) (by rw [hE])
 have k1:((j:Int)<R.length)=True:=eq_true (by omega)
 have k2:(j<R.length)=True:=eq_true hj2
 have k3:(j+1≤R.length)=True:=eq_true (by omega)
 have v3:=DV R j
 have m4:=hmem j
 have nx:=next (j+1)
 have hgo:=fun hfr=>Bn.2 (show (∀ i,i<j→DL L a b c (R.getD i 0))∧DL L a b c (R.getD j 0) from ⟨hno,hfr⟩)
 have hstop:¬ DL L a b c (R.getD j 0)→E=false:=fun hb=>by rw [hear]; exact decide_eq_false fun hh=>hb (hh.2 j hj2)
 rw [hfree] at hgo hstop
 generalize R.getD j 0=q at *
 have sQ:=hs q
 by_cases q1:q=a
 ·have g1:((q:Int)=(a:Int))=True:=eq_true (by omega)
  refine X0 1000 ?_
  simp only [XP,X7,X5,XD,XN,w1,f1,f2,f3,v2,k1,k2,k3,v3,g1,Int.toNat_natCast,↓X2,wA,↓reduceIte,reduceIte,reduceCtorEq,Y1,Y2,Y3,Y4,Y5,Y6,Y7,Y8,Y9,YA,wE]
  exact nx _ ⟨by omega,hgo (.inl q1)⟩ (by omega) (Xb rfl (by simp [Xh,XP,X7,X5,XD,XN,I]) (by simp [Xi,Xp,X5,XD,I]) rfl)
 have g1':((q:Int)=(a:Int))=False:=eq_false (by omega)
 by_cases q2:q=c
 ·have g2:((q:Int)=(c:Int))=True:=eq_true (by omega)
  refine X0 1000 ?_
  simp only [XP,X7,X5,XD,XN,w1,f1,f2,f3,v2,k1,k2,k3,v3,g1',g2,Int.toNat_natCast,↓X2,wA,↓reduceIte,reduceIte,reduceCtorEq,Y1,Y2,Y3,Y4,Y5,Y6,Y7,Y8,Y9,YA,wE]
  exact nx _ ⟨by omega,hgo (.inr (.inl q2))⟩ (by omega) (Xb rfl (by simp [Xh,XP,X7,X5,XD,XN,I]) (by simp [Xi,Xp,X5,XD,I]) rfl)
 have g2':((q:Int)=(c:Int))=False:=eq_false (by omega)
 by_cases q3:q=b
 ·have g3:((q:Int)=(b:Int))=True:=eq_true (by omega)
  refine X0 1000 ?_
  simp only [XP,X7,X5,XD,XN,w1,f1,f2,f3,v2,k1,k2,k3,v3,g1',g2',g3,Int.toNat_natCast,↓X2,wA,↓reduceIte,reduceIte,reduceCtorEq,Y1,Y2,Y3,Y4,Y5,Y6,Y7,Y8,Y9,YA,wE]
  exact nx _ ⟨by omega,hgo (.inr (.inr (.inl q3)))⟩ (by omega) (Xb rfl (by simp [Xh,XP,X7,X5,XD,XN,I]) (by simp [Xi,Xp,X5,XD,I]) rfl)
 have g3':((q:Int)=(b:Int))=False:=eq_false (by omega)
 refine X0 1000 ?_
 simp only [XP,X7,X5,XD,XN,w1,f1,f2,f3,v2,k1,k2,k3,v3,g1',g2',g3',Int.toNat_natCast,↓X2,wA,↓reduceIte,reduceIte,reduceCtorEq,Y1,Y2,Y3,Y4,Y5,Y6,Y7,Y8,Y9,YA,wE]
 have x1:((q:Int)<L.length)=True:=eq_true (by omega)
 have x2:(q<L.length)=True:=eq_true m4
 have x3:(q*8+8≤L.length*8)=True:=eq_true (by omega)
 have vq:=vF L q
 generalize hQ:L.getD q v0=Q at *
 have z0:((0:Int)<3)=True:=eq_true (by omega)
 have z1:((1:Int)<3)=True:=eq_true (by omega)
 have z2:((2:Int)<3)=True:=eq_true (by omega)
 have z3:((3:Int)<3)=False:=eq_false (by omega)
 have t1:IntKind.i64.wrap (0+1)=1:=rfl
 have t2:IntKind.i64.wrap (1+1)=2:=rfl
 have t3:IntKind.i64.wrap (2+1)=3:=rfl
 have r1:(1:Int).tmod 3=1:=rfl
 have r2:(2:Int).tmod 3=2:=rfl
 have r3:(3:Int).tmod 3=0:=rfl
 have c3:((3:Nat):Int)=3:=rfl
 have d0:Int.toNat 0=0:=rfl
 have d1:Int.toNat 1=1:=rfl
 have d2:Int.toNat 2=2:=rfl
 have c11:((1:Nat):Int)=1:=rfl
 have c22:((2:Nat):Int)=2:=rfl
 have n3:((3:Int)=0)=False:=eq_false (by omega)
 have p0:((0:Int)≤0)=True:=eq_true (by omega)
 have p1:((0:Int)≤1)=True:=eq_true (by omega)
 have p2:((0:Int)≤2)=True:=eq_true (by omega)
 have o1:IntKind.i64.wrap 1=1:=rfl
 have o2:IntKind.i64.wrap 2=2:=rfl
 have o3:IntKind.i64.wrap 0=0:=rfl
 refine Xf (fun i:Nat=>⟨11,[52,53,54,77,78,79],[gO L R,I p,.any,.any,.any,I a,I c,Lv A B C,.any,I q,.any],[(77,Lv A B C),(78,I 3),(79,I i),(52,X6 (zs R)),(53,I R.length),(54,I j)],[]⟩) (fun i=>i≤3∧((0<i→0≤Jj A B Q)∧(1<i→0≤Jj B C Q)∧(2<i→0≤Jj C A Q))) (fun i=>3 - i) 0 ⟨by omega,by omega,by omega,by omega⟩
  (Xb rfl (by simp [Xh,XP,X7,X5,XD,XN,I]) (by simp [Xi,Xp,X5,XD,XN,I]) rfl) ?_
 rintro i ⟨hi,hin⟩ next2
 rcases (show i=0∨i=1∨i=2∨i=3 by omega) with rfl | rfl | rfl | rfl
 ·have cs:=KS A B Q (by unfold vs; omega) (by unfold vs; omega) (by unfold vs; omega)
  have n2:=next2 1
  refine X0 1000 ?_
  simp only [XP,X7,X5,XD,XN,w1,z0,z1,z2,z3,t1,t2,t3,x1,x2,x3,o1,o2,o3,c3,d0,d1,d2,c11,c22,n3,p0,p1,p2,not_false_eq_true,true_and,r1,r2,r3,vq,Int.toNat_natCast,↓X2,wA,↓reduceIte,reduceIte,reduceCtorEq,Y1,Y2,Y3,Y4,Y5,Y6,Y7,Y8,Y9,YA,wE]
  refine X1 cs rfl ?_
  by_cases hneg:Jj A B Q<0
  ·simp only [eq_true hneg,XP,X7,X5,XD,XN,w1,↓X2,wA,↓reduceIte,reduceIte,reduceCtorEq,Y1,Y2,Y3,Y4,Y5,Y6,Y7,Y8,Y9,YA,wE]
   exact nx _ ⟨by omega,hgo (.inr (.inr (.inr fun hh=>by unfold ol at hh; omega)))⟩ (by omega) (Xb rfl (by simp [Xh,XP,X7,X5,XD,XN,I]) (by simp [Xi,Xp,X5,XD,I]) rfl)
  ·simp only [eq_false hneg,XP,X7,X5,XD,XN,w1,t1,t2,t3,↓X2,wA,↓reduceIte,reduceIte,reduceCtorEq,Y1,Y2,Y3,Y4,Y5,Y6,Y7,Y8,Y9,YA,wE]
   exact n2 _ ⟨by omega,by omega⟩ (by omega) (Xb rfl (by simp [Xh,XP,X7,X5,XD,XN,I]) (by simp [Xi,Xp,X5,XD,XN,I]) rfl)
 ·have cs:=KS B C Q (by unfold vs; omega) (by unfold vs; omega) (by unfold vs; omega)
  have n2:=next2 2
  refine X0 1000 ?_
  simp only [XP,X7,X5,XD,XN,w1,z0,z1,z2,z3,t1,t2,t3,x1,x2,x3,o1,o2,o3,c3,d0,d1,d2,c11,c22,n3,p0,p1,p2,not_false_eq_true,true_and,r1,r2,r3,vq,Int.toNat_natCast,↓X2,wA,↓reduceIte,reduceIte,reduceCtorEq,Y1,Y2,Y3,Y4,Y5,Y6,Y7,Y8,Y9,YA,wE]
  refine X1 cs rfl ?_
  by_cases hneg:Jj B C Q<0
  ·simp only [eq_true hneg,XP,X7,X5,XD,XN,w1,↓X2,wA,↓reduceIte,reduceIte,reduceCtorEq,Y1,Y2,Y3,Y4,Y5,Y6,Y7,Y8,Y9,YA,wE]
   exact nx _ ⟨by omega,hgo (.inr (.inr (.inr fun hh=>by unfold ol at hh; omega)))⟩ (by omega) (Xb rfl (by simp [Xh,XP,X7,X5,XD,XN,I]) (by simp [Xi,Xp,X5,XD,I]) rfl)
  ·simp only [eq_false hneg,XP,X7,X5,XD,XN,w1,t1,t2,t3,↓X2,wA,↓reduceIte,reduceIte,reduceCtorEq,Y1,Y2,Y3,Y4,Y5,Y6,Y7,Y8,Y9,YA,wE]
   exact n2 _ ⟨by omega,by omega⟩ (by omega) (Xb rfl (by simp [Xh,XP,X7,X5,XD,XN,I]) (by simp [Xi,Xp,X5,XD,XN,I]) rfl)
 ·have cs:=KS C A Q (by unfold vs; omega) (by unfold vs; omega) (by unfold vs; omega)
  have n2:=next2 3
  refine X0 1000 ?_
  simp only [XP,X7,X5,XD,XN,w1,z0,z1,z2,z3,t1,t2,t3,x1,x2,x3,o1,o2,o3,c3,d0,d1,d2,c11,c22,n3,p0,p1,p2,not_false_eq_true,true_and,r1,r2,r3,vq,Int.toNat_natCast,↓X2,wA,↓reduceIte,reduceIte,reduceCtorEq,Y1,Y2,Y3,Y4,Y5,Y6,Y7,Y8,Y9,YA,wE]
  refine X1 cs rfl ?_
  by_cases hneg:Jj C A Q<0
  ·simp only [eq_true hneg,XP,X7,X5,XD,XN,w1,↓X2,wA,↓reduceIte,reduceIte,reduceCtorEq,Y1,Y2,Y3,Y4,Y5,Y6,Y7,Y8,Y9,YA,wE]
   exact nx _ ⟨by omega,hgo (.inr (.inr (.inr fun hh=>by unfold ol at hh; omega)))⟩ (by omega) (Xb rfl (by simp [Xh,XP,X7,X5,XD,XN,I]) (by simp [Xi,Xp,X5,XD,I]) rfl)
  ·simp only [eq_false hneg,XP,X7,X5,XD,XN,w1,t1,t2,t3,↓X2,wA,↓reduceIte,reduceIte,reduceCtorEq,Y1,Y2,Y3,Y4,Y5,Y6,Y7,Y8,Y9,YA,wE]
   exact n2 _ ⟨by omega,by omega⟩ (by omega) (Xb rfl (by simp [Xh,XP,X7,X5,XD,XN,I]) (by simp [Xi,Xp,X5,XD,XN,I]) rfl)
 ·have hE:E=false:=hstop (by
   rintro (e | e | e | e)
   ·exact q1 e
   ·exact q2 e
   ·exact q3 e
   ·exact e ⟨hin.1 (by omega),hin.2.1 (by omega),hin.2.2 (by omega)⟩)
  refine X0 1000 ?_
  simp only [XP,X7,X5,XD,XN,z3,c3,↓X2,wA,↓reduceIte,reduceIte,reduceCtorEq,Y1,Y2,Y3,Y4,Y5,Y6,Y7,Y8,Y9,YA,wE]
  exact Xv (v:=.bool false) rfl rfl (X3 _) (by rw [hE])
theorem Lz (i:Nat):zs (List.range (i+1))=zs (List.range i) ++ [(i:Int)]:=by unfold zs; rw [List.range_succ,List.map_append]; rfl
theorem nl (L:List V2) (hl:L.length<1000000):HCall Tryz.prog 273 [Xs L] [] (.ref 0 0 0) (Iz L (2*L.length) (List.range L.length)):=by
 refine HCall.intro (fn:=Tryz.f273) Tryz.call273 Tryz.func273 rfl mixed 5 [8,9,10] [] [] (by kernel_rfl) (Nat.le_of_ble_eq_true rfl) (X0 1000 ?_)
 simp only [AS.start,X7,↓X2,wA,seval,wE]
 refine Xf (fun i:Nat=>⟨5,[8,9,10],[.any,.any,.any,.ref 0 0 0,.any],[(8,Xs L),(9,I L.length),(10,I i)],[.row 0 2 (Xn [Xs L,.osl 1 i 1 0 i]),.row i i (Q3 I 0 (zs (List.range i)))]⟩) (fun i=>i≤L.length) (fun i=>L.length - i) 0 (by omega)
  (Sub.trans (Hp (Q3 I 0 (zs (List.range 0)))) (Sub.trans (Zk 0 (Xn [Xs L,.osl 1 0 1 0 0]) rfl (fun j hj=>by
   match j,hj with
   | 0,_=>exact QT _ _
   | 1,_ =>
    show Z9 _ (.sl 0 0 (fun _=>.any) true) (.osl 1 0 1 0 0)
    exact Af (n:=0) (f:=Q3 I 0 (zs (List.range 0))) rfl
   | j+2,h=>exact absurd h (by show ¬ j+2<2; omega))) (Xb rfl (by simp [Xh]) (by simp [Xi,Xp,X7,I]) rfl))) ?_
 intro i hi next
 have w1:=wj i (by omega)
 by_cases hi2:i<L.length
 rotate_left
 ·obtain rfl:i=L.length:=by omega
  refine X0 1000 ?_
  simp only [X7,Int.lt_irrefl,Nat.lt_irrefl,↓X2,wA,seval,wE]
  refine Ix rfl rfl ?_
  rw [J2,List.length_range,show 2*L.length - L.length=L.length by omega,X7]
 have nx:=next (i+1)
 rw [Lz] at nx
 have hz:(zs (List.range i)).length=i:=by rw [XD,List.length_range]
 generalize zs (List.range i)=Z at *
 have f1:((i:Int)<L.length)=True:=eq_true (by omega)
 have f2:(i<L.length)=True:=eq_true hi2
 have hap:=E5 Z (i:Int)
 rw [hz] at hap
 refine X0 1000 ?_
 simp only [X7,w1,f1,f2,Int.toNat_natCast,↓X2,wA,seval,wE]
 exact ⟨⟨by omega,by omega⟩,nx _ (by omega) (by omega) (Xb rfl (by simp [Xh]) (by simp [Xi,Xp,X7,I]) (by rw [← hap]; rfl))⟩
theorem nI (L:List V2) (N:Nat) (R:List Nat) (p k:Nat) (h:Rok L R) (hd:R.Nodup) (hN:R.length≤N) (h3:3<R.length) (hp:p<R.length) (hs:Qt L k) (hk:k≤10000) :
  HCall Tryz.prog 275 [.ref 0 0 0,I p] (Iz L N R) (.agg [I (nr R (p+R.length - 1)),I (R.getD p 0:Nat),I (nr R (p+R.length+1))]) (Iz L N (AF L (R.length - 1) (R.eraseIdx p))):=by
 have c1:=FH L R p h (by have:=h.len; omega)
 have cd:=LN (.row 0 2 (Xn [Xs L,.osl 1 (N - R.length) 1 0 R.length])) (zs R) (N - R.length) p (by rw [XD]; exact hp)
 rw [XD,Rz] at cd
 have hl:(R.eraseIdx p).length=R.length - 1:=by rw [List.length_eraseIdx,if_pos hp]
 have cc:=aZ L N (R.eraseIdx p) k (Dx h h3 hp) (hd.eraseIdx p) (by omega) hs hk
 rw [hl] at cc
 have v2:=DV R p
 have hR:=h
 obtain ⟨h0,hn,hmem,hL⟩:=hR
 generalize AF L (R.length - 1) (R.eraseIdx p)=R2 at *
 generalize nr R (p+R.length - 1)=a at *
 generalize nr R (p+R.length+1)=c at *
 generalize R.getD p 0=b at *
 have f1:((p:Int)<R.length)=True:=eq_true (by omega)
 have f2:(p<R.length)=True:=eq_true hp
 have f3:(p+1≤R.length)=True:=eq_true (by omega)
 have w1:=wj p (by omega)
 refine HCall.introC (fn:=Tryz.f275) Tryz.call275 Tryz.func275 rfl mixed 8 [] [] [] (by kernel_rfl) (Nat.le_of_ble_eq_true rfl) (X9 (Qd (by simp [Xa]))) (fun o ho=>((Ka _ _ _).2 o ho).1) (X0 1000 ?_)
 simp only [AS.start,J2,List.cons_append,List.nil_append,↓X2,wA,seval,wE]
 refine Jo c1 rfl ⟨Ho (N:=N) (rest:=[.row 0 3 (Xn [I 0,I 0,I 0])]),Qy (Xa _) rfl,trivial⟩ (d8 (by simp [I,Bu])) ?_
 simp only [w1,f1,f2,f3,v2,Int.toNat_natCast,↓X2,wA,seval,wE]
 have o2:∀ o∈[AO.row 0 2 (Xn [Xs L,.osl 1 (N - R.length) 1 0 R.length]),.row (N - R.length+1) (R.length - 1) (Q3 I 0 (zs (R.eraseIdx p)))],o≠.unborn∧∀ v n f,o≠.con v n f:=fun o ho=>by
  simp only [List.mem_cons,List.not_mem_nil,or_false] at ho
  rcases ho with rfl | rfl <;> exact ⟨by simp,by simp⟩
 have bA:∀ a∈[AV.osl 1 (N - R.length) 1 0 R.length,I p,I ((p+1:Nat):Int)],Kd 2 a:=fun a ha=>by
  simp only [List.mem_cons,List.not_mem_nil,or_false] at ha
  rcases ha with rfl | rfl | rfl
  ·exact H3 (by omega)
  ·exact X9 (Xa _)
  ·exact X9 (Xa _)
 have bR:∀ a∈[AV.ref 0 0 0],Kd 2 a:=fun a ha=>by
  rw [List.mem_singleton.1 ha]
  have:Kd 2 (.ref 0 0 0)=True:=by simp [Xz]
  exact this▸trivial
 refine BJ (H1:=Iz L N R) (H1':=[AO.row 0 2 (Xn [Xs L,.osl 1 (N - R.length) 1 0 R.length]),.row (N - R.length+1) (R.length - 1) (Q3 I 0 (zs (R.eraseIdx p)))]) (rest:=[.row 0 3 (Xn [I 0,I 0,I 0]),.row 0 3 (Xn [I a,I b,I c])]) rfl cd rfl rfl bA (fun o ho=>((Ka L N R).2 o ho).1) (fun o ho=>((Ka L N R).2 o ho).2.1) (fun o ho=>(o2 o ho).1) (QI (fun o ho=>((Ka L N R).2 o ho).2.2) (fun o ho=>(o2 o ho).2)) (Qc _) ?_
 simp only [List.cons_append,List.nil_append,↓X2,wA,seval,wE]
 refine BJ (H1:=Iz L N (R.eraseIdx p)) (H1':=Iz L N R2) (rest:=[.row 0 3 (Xn [I 0,I 0,I 0]),.row 0 3 (Xn [I a,I b,I c])]) rfl cc (by rw [J2,hl,show N - (R.length - 1)=N - R.length+1 by omega]; rfl) rfl bR (fun o ho=>((Ka L N _).2 o ho).1) (fun o ho=>((Ka L N _).2 o ho).2.1) (fun o ho=>((Ka L N _).2 o ho).2.1) (QI (fun o ho=>((Ka L N _).2 o ho).2.2) (fun o ho=>((Ka L N _).2 o ho).2.2)) (Qc _) ?_
 simp only [J2,List.cons_append,List.nil_append,↓X2,wA,seval,wE]
 exact Uz (v:=.agg [I a,I b,I c]) rfl (by simp [AS.get,Jz,dM,rd,Qr,Xn,BB,I]) rfl rfl
theorem rY {a b:Int} (h:a<b):(a<b)=True:=eq_true h
theorem rn {a b:Int} (h:b≤a):(a<b)=False:=eq_false (by omega)
theorem rX {a b:Int} (h:a≤b):(a≤b)=True:=eq_true h
theorem rl {a b:Int} (h:b<a):(a≤b)=False:=eq_false (by omega)
theorem rW {a b:Int} (h:a=b):(a=b)=True:=eq_true h
theorem rk {a b:Int} (h:a≠b):(a=b)=False:=eq_false h
theorem s0 {a b:Nat} (h:a<b):(a<b)=True:=eq_true h
theorem rF {a b:Nat} (h:b≤a):(a<b)=False:=eq_false (by omega)
theorem rZ {a b:Nat} (h:a≤b):(a≤b)=True:=eq_true h
theorem rE {a b:Nat} (h:b<a):(a≤b)=False:=eq_false (by omega)
theorem rz {a b:Nat} (h:a=b):(a=b)=True:=eq_true h
theorem rD {a b:Nat} (h:a≠b):(a=b)=False:=eq_false h
theorem qc {x:Int} (h:-9223372036854775808≤x∧x<9223372036854775808):IntKind.i64.wrap x=x:=by rw [IntKind.wrap_i64]; omega
theorem rp {n:Nat}:(n:Int).toNat=n:=Int.toNat_natCast n
theorem qX (f:Nat→AV) (i:Nat) (v:AV) (j:Nat):AJ f i v j=if j=i then v else f j:=nrfl rfl
def Yl (l:List AV) (i:Nat) (a:AV):Nat→AV:=AJ (Xn l) i a
def TS (x:AV) (f:Nat→AV):Nat→AV:=fun j=>match j with | 0=>x | j+1=>f j
theorem pg (l:List AV) (i:Nat) (a:AV):AJ (Xn l) i a=Yl l i a:=nrfl rfl
theorem pi (x a:AV) (l:List AV):Yl (x :: l) 0 a=Xn (a :: l):=by
 funext j; unfold Yl AJ Xn; cases j <;> simp
theorem ph (x a:AV) (l:List AV) (n:Nat):Yl (x :: l) (n+1) a=TS x (Yl l n a):=by
 funext j; unfold Yl AJ Xn TS; cases j <;> simp
theorem jl (x:AV) (l:List AV):TS x (Xn l)=Xn (x :: l):=by
 funext j; unfold Xn TS; cases j <;> simp
def sg (x:Rat):Bool:=decide (x.num<0)
theorem Xl (x:Rat):decide (x.num<0)=sg x:=nrfl rfl
set_option linter.defProp false in
def wD:=And.intro @qX (And.intro @pg <| And.intro @pi <| And.intro @ph <| And.intro @jl <| And.intro @rY (And.intro @rn (And.intro @rX (And.intro @rl (And.intro @rW (And.intro @rk (And.intro @s0 (And.intro @rF (And.intro @rZ (And.intro @rE (And.intro @rz (And.intro @rD (And.intro @qc @rp)))))))))))))
def tC (d:Nat×Nat×Nat):List AV:=[I d.1,I d.2.1,I d.2.2]
theorem IG (d:Nat×Nat×Nat):∀ x∈tC d,Settled x:=by simp [tC,Xa]
def p7 (l:List (Nat×Nat×Nat)):AV:=pz tC 3 (0,0,0) l
theorem Dz (l:List (Nat×Nat×Nat)):p7 l=.sl l.length (l.length*3) (Xr tC 3 (0,0,0) l) false:=nrfl rfl
theorem R7 (l:List (Nat×Nat×Nat)):Settled (p7 l):=QS fun j _=>Xg (IG _) _
def FO (L:List V2) (R:List Nat):Nat:=(List.range (R.length - 1)).findIdx (CA L R)
theorem TZ (L:List V2) (R:List Nat):FO L R≤R.length - 1:=by
 have:=List.findIdx_le_length (xs:=List.range (R.length - 1)) (p:=CA L R)
 rwa [List.length_range] at this
theorem jx {L:List V2} {R:List Nat} {p:Nat} (h1:p≤R.length - 1) (h2:∀ j,j<p→CA L R j=false) (h3:p=R.length - 1∨CA L R p=true):FO L R=p:=by
 have hle:=TZ L R
 rcases Nat.lt_trichotomy (FO L R) p with h | h | h
 ·have:=List.findIdx_getElem (xs:=List.range (R.length - 1)) (p:=CA L R) (w:=by rw [List.length_range]; unfold FO at h; omega)
  rw [List.getElem_range] at this
  have h4:=h2 _ h
  unfold FO at h4
  rw [h4] at this; cases this
 ·exact h
 ·rcases h3 with h3 | h3
  ·omega
  ·have:=List.not_of_lt_findIdx (xs:=List.range (R.length - 1)) (p:=CA L R) (i:=p) h
   rw [List.getElem_range,h3] at this
   exact absurd this (by simp)
def Lw (R:List Nat) (p:Nat):Nat×Nat×Nat:=(nr R (p+R.length - 1),R.getD p 0,nr R (p+R.length+1))
def DC (L:List V2) (R:List Nat):List Nat:=AF L (R.length - 1) (R.eraseIdx (FO L R))
def BM (L:List V2):Nat→List Nat→List (Nat×Nat×Nat)
 | 0,R=>[(R.getD 0 0,R.getD 1 0,R.getD 2 0)]
 | f+1,R=>if 3<R.length then Lw R (FO L R) :: BM L f (DC L R) else [(R.getD 0 0,R.getD 1 0,R.getD 2 0)]
def DB (L:List V2):List (Nat×Nat×Nat):=BM L L.length (List.range L.length)
theorem bg (L:List V2):∀ (f:Nat) (R:List Nat),Rok L R→R.Nodup→3≤R.length→Rok L (AF L f R)∧(AF L f R).Nodup∧3≤(AF L f R).length∧(AF L f R).length≤R.length
 | 0,R,h,hd,h3=>⟨h,hd,h3,Nat.le_refl _⟩
 | f+1,R,h,hd,h3=>by
  unfold AF
  split
  ·rename_i hc
   have hl:(R.eraseIdx (A9 L R)).length=R.length - 1:=by rw [List.length_eraseIdx,if_pos hc.2]
   obtain ⟨a1,a2,a3,a4⟩:=bg L f _ (Dx h hc.1 hc.2) (hd.eraseIdx _) (by omega)
   exact ⟨a1,a2,a3,by omega⟩
  ·exact ⟨h,hd,h3,Nat.le_refl _⟩
theorem EM {L:List V2} {R:List Nat} (h:Rok L R) (hd:R.Nodup) (h3:3<R.length):Rok L (DC L R)∧(DC L R).Nodup∧3≤(DC L R).length∧(DC L R).length≤R.length - 1:=by
 have hp:FO L R<R.length:=by have:=TZ L R; omega
 have hl:(R.eraseIdx (FO L R)).length=R.length - 1:=by rw [List.length_eraseIdx,if_pos hp]
 obtain ⟨a1,a2,a3,a4⟩:=bg L (R.length - 1) _ (Dx h h3 hp) (hd.eraseIdx _) (by omega)
 exact ⟨a1,a2,a3,by unfold DC; omega⟩
theorem LM (L:List V2):∀ (f g:Nat) (R:List Nat),Rok L R→R.Nodup→R.length≤f→R.length≤g→BM L f R=BM L g R
 | 0,g,R,h,_,hf,_=>by have:=h.pos; omega
 | f+1,0,R,h,_,_,hg=>by have:=h.pos; omega
 | f+1,g+1,R,h,hd,hf,hg=>by
  unfold BM
  split
  ·rename_i h3
   obtain ⟨a1,a2,a3,a4⟩:=EM h hd h3
   rw [LM L f g _ a1 a2 (by omega) (by omega)]
  ·rfl
theorem jq {L:List V2} {R:List Nat} (h:Rok L R) (hd:R.Nodup) (h3:3<R.length):BM L R.length R=Lw R (FO L R) :: BM L (DC L R).length (DC L R):=by
 obtain ⟨a1,a2,a3,a4⟩:=EM h hd h3
 cases hl:R.length with
 | zero=>omega
 | succ n =>
  show (if 3<R.length then _ else _)=_
  rw [if_pos h3,LM L n (DC L R).length _ a1 a2 (by omega) (Nat.le_refl _)]
theorem bM {L:List V2} {R:List Nat} (h3:¬ 3<R.length) (f:Nat):BM L f R=[(R.getD 0 0,R.getD 1 0,R.getD 2 0)]:=by
 cases f with
 | zero=>rfl
 | succ n=>unfold BM; rw [if_neg h3]
theorem Dy {L:List V2} (h:3≤L.length) (hl:L.length<1000000):Rok L (List.range L.length):=⟨by rw [List.length_range]; omega,by rw [List.length_range]; omega,fun j=>by
 rw [List.getD_eq_getElem?_getD]
 by_cases hj:j<L.length
 ·rw [List.getElem?_range hj]; exact hj
 ·rw [List.getElem?_eq_none (by rw [List.length_range]; omega)]; show 0<L.length; omega,hl⟩
theorem li {P:Program} {fn:Func} {str hcs:List Nat} {s:AS} {t u id ver:Nat} {e:AV} (D:List (Nat×Nat×Nat)) (hr:fn.results=#[.tmp t,.tmp u]) (hs:s.get t=.osl id ver 3 0 D.length) (ho:s.h[id]?=some (.row ver (D.length*3) (Xr tC 3 (0,0,0) D))) (hu:s.get u=e) (he:Settled e):RetOk (J4 P fn str hcs (.tup [p7 D,e])) s:=by
 refine ft hr (AA ⟨?_,Qy he hu,trivial⟩)
 rw [hs,Dz]
 refine QD (.inl ho) (by omega) (fun h=>by rw [h]) fun j hj=>?_
 rw [Nat.zero_add]
 exact (Xg (IG _) _).sees _
theorem fO (c:Nat×Nat×Nat):∀ j,j<3→((tC c).getD j .any).one=true:=fun j hj=>by
 match j,hj with
 | 0,_=>rfl
 | 1,_=>rfl
 | 2,_=>rfl
 | j+3,h=>omega
theorem je (L:List V2) (k:Nat) (hs:Qt L k) (hk:k≤1000) (hp:BX L):Fn Tryz.prog 263 [Xs L] (.tup [p7 (DB L),I 0]):=by
 have hl:=hp.1
 have cv:=WP L (fun i=>Nat.le_trans (hs i) hk) (by omega)
 rw [decide_eq_true hp] at cv
 have ca:=nl L (by omega)
 obtain ⟨T,hT⟩:∃ T,T=DB L:=⟨_,rfl⟩
 rw [← hT]
 have h0:=Dy hl.1 (by omega)
 have d0:(List.range L.length).Nodup:=List.nodup_range
 refine Fq Tryz.call263 Tryz.func263 7 [] [] [3,9] (by simp [Xk]) (X0 1000 ?_)
 simp only [AS.start,↓X2,wA,seval,wE]
 refine X1 cv rfl ?_
 simp only [↓X2,wA,seval,wE]
 refine Ke rfl ca (QI (fun o h=>absurd h (List.not_mem_nil)) (fun o ho=>((Ka _ _ _).2 o ho).2.2)) (fun id=>by simp) (Qc _) ?_
 have hlr:(List.range L.length).length=L.length:=List.length_range
 have hTc:T=BM L (List.range L.length).length (List.range L.length):=by rw [hT,hlr]; rfl
 generalize hN:2*L.length=N
 generalize List.range L.length=R0 at *
 simp only [J2,↓X2,wA,seval,wE]
 refine Xf (fun w:List (Nat×Nat×Nat)×List Nat=>⟨7,[],[Xs L,.any,.any,.any,.ref 0 0 0,.osl 2 w.1.length 3 0 w.1.length,.any],[],Iz L N w.2 ++ [.row w.1.length (w.1.length*3) (Xr tC 3 (0,0,0) w.1)]⟩) (fun w=>Rok L w.2∧w.2.Nodup∧3≤w.2.length∧w.1.length+w.2.length≤L.length∧w.1 ++ BM L w.2.length w.2=T) (fun w=>w.2.length) ([],R0) ⟨h0,d0,by show 3≤R0.length; omega,by simp [hlr],by rw [hTc]; rfl⟩
  (Sub.trans (QL 5 3 (Xr tC 3 (0,0,0) []) rfl) (Xb rfl (by simp [AS.put,Xh]) (by simp [AS.put,Xi]) (by simp [AS.put,J2]))) ?_
 rintro ⟨D,R⟩ ⟨h,hd,h3,hDl,hDT⟩ next
 replace h:Rok L R:=h
 replace hd:R.Nodup:=hd
 replace h3:3≤R.length:=h3
 replace hDl:D.length+R.length≤L.length:=hDl
 replace hDT:D ++ BM L R.length R=T:=hDT
 have hNR:R.length≤N:=by omega
 by_cases h4:3<R.length
 rotate_left
 ·have e3:R.length=3:=by omega
  rw [bM h4] at hDT
  have hap:=Qq tC 3 (0,0,0) D (R.getD 0 0,R.getD 1 0,R.getD 2 0) (by omega)
  rw [hDT] at hap
  have hTl:T.length=D.length+1:=by rw [← hDT]; simp
  refine X0 1000 ?_
  simp (disch:=omega) only [J2,List.cons_append,List.nil_append,DV,JV,wD,↓X2,wA,seval,wE]
  exact ⟨fO (R.getD 0 0,R.getD 1 0,R.getD 2 0),li T rfl (by rw [hTl]; rfl) (by rw [hTl,← hap]; rfl) rfl (Xa _)⟩
 have hgo:=jq h hd h4
 obtain ⟨b1,b2,b3,b4⟩:=EM h hd h4
 refine X0 1000 ?_
 simp (disch:=omega) only [J2,List.cons_append,List.nil_append,wD,↓X2,wA,seval,wE]
 refine Xf (fun p:Nat=>⟨7,[],[Xs L,.any,.any,.any,.ref 0 0 0,.osl 2 D.length 3 0 D.length,I p],[],Iz L N R ++ [.row D.length (D.length*3) (Xr tC 3 (0,0,0) D)]⟩) (fun p=>p≤R.length - 1∧∀ j,j<p→CA L R j=false) (fun p=>R.length - p) 0 ⟨by omega,fun j hj=>absurd hj (Nat.not_lt_zero j)⟩
  (Xb rfl (by simp [Xh,I]) (by simp [Xi]) (by simp [J2])) ?_
 rintro p ⟨hp1,hno⟩ next2
 have hn:=h.len
 have ce:=nL L R p k h (by omega) hs (by omega)
 have cc:=nI L N R p k h hd hNR h4 (by omega) hs (by omega)
 have hlr:(R.eraseIdx p).length=R.length - 1:=by rw [List.length_eraseIdx,if_pos (by omega)]
 by_cases hgo2:p<R.length - 1∧CA L R p=false
 ·refine X0 1000 ?_
  simp (disch:=omega) only [J2,List.cons_append,List.nil_append,wD,↓X2,wA,seval,wE]
  refine Jo ce rfl ⟨Ho,Qy (Xa _) rfl,trivial⟩ (Zv _) ?_
  simp (disch:=omega) only [hgo2.2,J2,List.cons_append,List.nil_append,wD,↓X2,wA,seval,wE]
  exact next2 (p+1) _ ⟨by omega,Bn.2 ⟨hno,hgo2.2⟩⟩ (by omega) (Xb rfl (by simp [Xh,I]) (by simp [Xi]) (by simp [J2]))
 have hep:FO L R=p:=jx hp1 hno (by
  by_cases h1:p=R.length - 1
  ·exact .inl h1
  ·right
   cases he:CA L R p with
   | true=>rfl
   | false=>exact absurd ⟨by omega,he⟩ hgo2)
 have hD:(D ++ [Lw R p]) ++ BM L (DC L R).length (DC L R)=T:=by rw [← hDT,hgo,hep,List.append_assoc]; rfl
 have hap:=Qq tC 3 (0,0,0) D (Lw R p) (by omega)
 have hcs:AF L (R.length - 1) (R.eraseIdx p)=DC L R:=by unfold DC; rw [hep]
 rw [hcs] at cc
 have hDn:(D ++ [Lw R p]).length=D.length+1:=by simp
 have nx:=next (D ++ [Lw R p],DC L R)
 rw [List.length_append,List.length_singleton] at nx
 have htr:tC (Lw R p)=[I (nr R (p+R.length - 1)),I (R.getD p 0:Nat),I (nr R (p+R.length+1))]:=rfl
 have hone:=fO (Lw R p)
 rw [htr] at hap hone
 generalize D ++ [Lw R p]=D2 at *
 generalize DC L R=R2 at *
 generalize nr R (p+R.length - 1)=a at *
 generalize nr R (p+R.length+1)=c at *
 generalize R.getD p 0=b at *
 clear hgo hcs htr
 have bR:∀ a∈[AV.ref 0 0 0,I p],Kd 2 a:=fun a ha=>by
  simp only [List.mem_cons,List.not_mem_nil,or_false] at ha
  rcases ha with rfl | rfl
  ·have:Kd 2 (.ref 0 0 0)=True:=by simp [Xz]
   exact this▸trivial
  ·exact X9 (Xa _)
 refine X0 1000 ?_
 by_cases hl:p<R.length - 1
 have he:CA L R p=true:=by
  cases he:CA L R p with
  | true=>rfl
  | false=>exact absurd ⟨hl,he⟩ hgo2
 simp (disch:=omega) only [J2,List.cons_append,List.nil_append,wD,↓X2,wA,seval,wE]
 refine Jo ce rfl ⟨Ho,Qy (Xa _) rfl,trivial⟩ (Zv _) ?_
 simp (disch:=omega) only [he,J2,List.cons_append,List.nil_append,wD,↓X2,wA,seval,wE]
 rotate_left
 simp (disch:=omega) only [J2,List.cons_append,List.nil_append,wD,↓X2,wA,seval,wE]
 all_goals
  refine BJ (H1:=Iz L N R) (H1':=Iz L N R2) (rest:=[.row D.length (D.length*3) (Xr tC 3 (0,0,0) D)]) rfl cc rfl rfl bR (fun o ho=>((Ka L N R).2 o ho).1) (fun o ho=>((Ka L N _).2 o ho).2.1) (fun o ho=>((Ka L N _).2 o ho).2.1) (QI (fun o ho=>((Ka L N _).2 o ho).2.2) (fun o ho=>((Ka L N _).2 o ho).2.2)) (Qc _) ?_
  simp (disch:=omega) only [J2,List.cons_append,List.nil_append,wD,↓X2,wA,seval,wE]
  exact ⟨hone,nx _ ⟨b1,b2,b3,by show D.length+1+R2.length≤L.length; omega,hD⟩ (by show R2.length<R.length; omega) (Xb rfl (by simp [Xh]) (by simp [Xi]) (by rw [← hap]; simp [J2,I]))⟩
end
end Go.Ab.N
