/- Contracts of functions of these chapters, for every argument that fits, and what they need. -/
import Derived.Test.YtefjhgcndhepeaaGreatC9
import Derived.Shelf.SlicesE.Delete
import Derived.Test.YtefjhgcndhepeaaGreatC3
set_option linter.unusedSimpArgs false
set_option linter.unusedVariables false
open Nat renaming reducePow → Y1, reduceLT → Y2, reduceLeDiff → Y3, reduceEqDiff → Y4, reduceAdd → Y5, reduceMul → Y6, reduceSub → Y7, reduceBEq → Y8, reduceDiv → Y9, reduceMod → YA
namespace Go.Ab.N
open Go Go.RowKit Go.Proofs
noncomputable section
set_option maxRecDepth 10000
set_option maxHeartbeats 4000000
open Classical
def dA (A:List V2) (i:Nat):V2:=RT (A.getD i v0) (A.getD ((i+1) % A.length) v0)
def dB (B:List V2) (i:Nat):V2:=RT (B.getD ((i+1) % B.length) v0) (B.getD i v0)
def Hi (A:List V2) (i:Nat):List V2:=(List.range i).map (dA A)
def Mq (B:List V2) (i:Nat):List V2:=(List.range i).map (dB B)
def ZZ (A B:List V2):List V2:=(Hi A A.length ++ Mq B B.length) ++ [JA (1,0),JA (0,1),JA (-1,0),JA (0,-1)]
theorem PR (A:List V2) (i:Nat):Hi A (i+1)=Hi A i ++ [dA A i]:=by unfold Hi; rw [List.range_succ,List.map_append]; rfl
theorem PT (B:List V2) (i:Nat):Mq B (i+1)=Mq B i ++ [dB B i]:=by unfold Mq; rw [List.range_succ,List.map_append]; rfl
theorem C0 (A:List V2) (i:Nat):(Hi A i).length=i:=by simp [Hi]
theorem Ea (B:List V2) (i:Nat):(Mq B i).length=i:=by simp [Mq]
theorem np (p q:V2):Bf (RT p q)=RT q p:=by
 unfold Bf RT V2.sub
 rw [V2.ext']
 exact ⟨by simp only; grind,by simp only; grind⟩
theorem sX (L:List V2) (a b c d:V2) (j:Nat) (hj:j<(L.length+4)*8):QM (L.length*8) (Xw vC 8 v0 L) 32 (Xq (vC a ++ (vC b ++ (vC c ++ vC d)))) j=Xw vC 8 v0 (L ++ [a,b,c,d]) j:=by
 unfold QM
 by_cases h:j<L.length*8
 ·rw [if_pos h]
  unfold Xw
  have:j / 8<L.length:=by omega
  have e:(L ++ [a,b,c,d]).getD (j / 8) v0=L.getD (j / 8) v0:=by rw [List.getD_eq_getElem?_getD,List.getD_eq_getElem?_getD,List.getElem?_append_left this]
  rw [e]
 ·rw [if_neg h,if_pos (by omega)]
  obtain ⟨i,rfl⟩:∃ i,j=L.length*8+i:=⟨j - L.length*8,by omega⟩
  have hi:i<32:=by omega
  have e1:L.length*8+i - L.length*8=i:=by omega
  have e2:(L.length*8+i) / 8=L.length+i / 8:=by omega
  have e3:(L.length*8+i) % 8=i % 8:=by omega
  unfold Xw
  rw [e1,e2,e3]
  have e4:(L ++ [a,b,c,d]).getD (L.length+i / 8) v0=[a,b,c,d].getD (i / 8) v0:=by
   rw [List.getD_eq_getElem?_getD,List.getD_eq_getElem?_getD,List.getElem?_append_right (by omega)]
   rw [show L.length+i / 8 - L.length=i / 8 by omega]
  rw [e4]
  clear e1 e2 e3 e4 hj h
  match i,hi with
  | 0,_=>rfl
  | 1,_=>rfl
  | 2,_=>rfl
  | 3,_=>rfl
  | 4,_=>rfl
  | 5,_=>rfl
  | 6,_=>rfl
  | 7,_=>rfl
  | 8,_=>rfl
  | 9,_=>rfl
  | 10,_=>rfl
  | 11,_=>rfl
  | 12,_=>rfl
  | 13,_=>rfl
  | 14,_=>rfl
  | 15,_=>rfl
  | 16,_=>rfl
  | 17,_=>rfl
  | 18,_=>rfl
  | 19,_=>rfl
  | 20,_=>rfl
  | 21,_=>rfl
  | 22,_=>rfl
  | 23,_=>rfl
  | 24,_=>rfl
  | 25,_=>rfl
  | 26,_=>rfl
  | 27,_=>rfl
  | 28,_=>rfl
  | 29,_=>rfl
  | 30,_=>rfl
  | 31,_=>rfl
  | i+32,h=>omega
theorem La (A B:List V2) (k:Nat) (ha:XU A k) (hb:XU B k) (hk:1≤k):∀ x∈ZZ A B,vb x≤2*k+3:=by
 intro x hx
 have p4:∀ c:Int×Int,-1≤c.1∧c.1≤1→-1≤c.2∧c.2≤1→vb (JA c)≤3:=fun c h1 h2=>by
  have q1:=ZC c.1 3 (by omega) (QO ⟨by omega,by omega⟩)
  have q2:=ZC c.2 3 (by omega) (QO ⟨by omega,by omega⟩)
  unfold vb JA; simp only; omega
 unfold ZZ at hx
 rcases List.mem_append.1 hx with h | h
 ·rcases List.mem_append.1 h with h | h
  ·obtain ⟨i,_,rfl⟩:=List.mem_map.1 h
   have:=V6 (A.getD i v0) (A.getD ((i+1) % A.length) v0)
   have:=ha i; have:=ha ((i+1) % A.length)
   unfold dA; omega
  ·obtain ⟨i,_,rfl⟩:=List.mem_map.1 h
   have:=V6 (B.getD ((i+1) % B.length) v0) (B.getD i v0)
   have:=hb i; have:=hb ((i+1) % B.length)
   unfold dB; omega
 ·simp only [List.mem_cons,List.not_mem_nil,or_false] at h
  rcases h with rfl | rfl | rfl | rfl
  ·exact Nat.le_trans (p4 _ (by decide) (by decide)) (by omega)
  ·exact Nat.le_trans (p4 _ (by decide) (by decide)) (by omega)
  ·exact Nat.le_trans (p4 _ (by decide) (by decide)) (by omega)
  ·exact Nat.le_trans (p4 _ (by decide) (by decide)) (by omega)
theorem u6 (a b c d:V2):∀ j,j<32→((vC a ++ (vC b ++ (vC c ++ vC d))).getD j .any).one=true:=fun j hj=>by
 match j,hj with
 | 0,_=>rfl
 | 1,_=>rfl
 | 2,_=>rfl
 | 3,_=>rfl
 | 4,_=>rfl
 | 5,_=>rfl
 | 6,_=>rfl
 | 7,_=>rfl
 | 8,_=>rfl
 | 9,_=>rfl
 | 10,_=>rfl
 | 11,_=>rfl
 | 12,_=>rfl
 | 13,_=>rfl
 | 14,_=>rfl
 | 15,_=>rfl
 | 16,_=>rfl
 | 17,_=>rfl
 | 18,_=>rfl
 | 19,_=>rfl
 | 20,_=>rfl
 | 21,_=>rfl
 | 22,_=>rfl
 | 23,_=>rfl
 | 24,_=>rfl
 | 25,_=>rfl
 | 26,_=>rfl
 | 27,_=>rfl
 | 28,_=>rfl
 | 29,_=>rfl
 | 30,_=>rfl
 | 31,_=>rfl
 | j+32,h=>omega
theorem dO (A B:List V2) (c:Nat) (ha:XU A c) (hb:XU B c) (hc:c≤10000) (la:A.length<100000) (lb:B.length<100000):Fn Tryz.prog 261 [Xt A,Xt B] (Xt (ZZ A B)):=by
 have hvc:∀ a:V2,∀ x∈vC a,Settled x:=fun a=>by simp [vC,X7,X3]
 have bA:Jq 1 (Xt A)=True:=eq_true (X6 (Xf A))
 have bB:Jq 1 (Xt B)=True:=eq_true (X6 (Xf B))
 have br:∀ i l n,XI 1 (.row i n (Xw vC 8 v0 l))=True:=fun i l n=>eq_true fun j _=>X6 (Xd (hvc _) _)
 obtain ⟨R,hR⟩:∃ R,R=Xt (ZZ A B):=⟨_,rfl⟩
 rw [← hR]
 refine Fq Tryz.call261 Tryz.func261 10 [10,11,12,31,32,33] [5,60000007,10,110000009] [] (by simp [Xf]) (X0 1000 ?_)
 simp only [AS.start,X5,↓X2,wA,seval,wE]
 refine Xe (fun i:Nat=>⟨10,[10,11,12,31,32,33],[Xt A,Xt B,.any,.any,.any,.osl 0 i 8 0 i,.any,.any,.any,.any],[(10,Xt A),(11,I A.length),(12,I i)],[.row i (i*8) (Xw vC 8 v0 (Hi A i))]⟩) (fun i=>i≤A.length) (fun i=>A.length - i) 0 (by omega)
  (Sub.trans (Qg 5 8 (Xw vC 8 v0 []) rfl) (Xa rfl (by simp [AS.put,Xh,X5,I]) (by simp [AS.put,Xi,Xv,X5,I]) (by simp [AS.put,Hi]))) ?_
 intro i hi next
 have w1:=wj i (by omega)
 by_cases hi2:i<A.length
 ·have nx:=next (i+1)
  have f1:((i:Int)<A.length)=True:=eq_true (by omega)
  have f2:(i<A.length)=True:=eq_true hi2
  have f3:(i*8+8≤A.length*8)=True:=eq_true (by omega)
  have hm:((i+1:Nat):Int).tmod A.length=(((i+1) % A.length:Nat):Int):=rfl
  have hml:(i+1) % A.length<A.length:=Nat.mod_lt _ (by omega)
  have f4:((i+1) % A.length<A.length)=True:=eq_true hml
  have f5:((i+1) % A.length*8+8≤A.length*8)=True:=eq_true (by omega)
  have f6:((A.length:Int)=0)=False:=eq_false (by omega)
  have f6':(A.length=0)=False:=eq_false (by omega)
  have v1:=vF A i
  have v2:=vF A ((i+1) % A.length)
  have s1:=ha i; have s2:=ha ((i+1) % A.length)
  have hap:=Q0 vC 8 v0 (Hi A i) (dA A i) (by omega)
  rw [C0,← PR] at hap
  have c1:=IK (A.getD i v0) (A.getD ((i+1) % A.length) v0) (by omega) (by omega)
  rw [show RT (A.getD i v0) (A.getD ((i+1) % A.length) v0)=dA A i from rfl] at c1
  refine X0 1000 ?_
  simp only [X5,w1,f1,f2,f3,f4,f5,f6,f6',hm,v1,v2,Int.toNat_natCast,↓X2,wA,seval,wE]
  refine X1 c1 rfl ?_
  simp only [w1,↓X2,wA,seval,wE]
  exact ⟨⟨BQ _,by omega,by omega⟩,nx _ (by omega) (by omega) (Xz (m:=1) (Nat.zero_le _) rfl (by simp [Xh,X5,I]) (by simp [Xi,Xv,X5,I]) (by rw [← hap]; rfl) (by simp [Xy,bA,bB]) (by simp [Xy,bA,bB]) (by simp [br]))⟩
 obtain rfl:i=A.length:=by omega
 refine X0 1000 ?_
 simp only [X5,Int.lt_irrefl,Nat.lt_irrefl,↓X2,wA,seval,wE]
 refine Xe (fun i:Nat=>⟨10,[10,11,12,31,32,33],[Xt A,Xt B,.any,.any,.any,.osl 0 (A.length+i) 8 0 (A.length+i),.any,.any,.any,.any],[(31,Xt B),(32,I B.length),(33,I i)],[.row (A.length+i) ((A.length+i)*8) (Xw vC 8 v0 (Hi A A.length ++ Mq B i))]⟩) (fun i=>i≤B.length) (fun i=>B.length - i) 0 (by omega)
  (Xa rfl (by simp [Xh,X5,I]) (by simp [Xi,Xv,X5,I]) (by simp [Mq])) ?_
 intro i hi next
 have w1:=wj i (by omega)
 by_cases hi2:i<B.length
 ·have nx:=next (i+1)
  have f1:((i:Int)<B.length)=True:=eq_true (by omega)
  have f2:(i<B.length)=True:=eq_true hi2
  have f3:(i*8+8≤B.length*8)=True:=eq_true (by omega)
  have hm:((i+1:Nat):Int).tmod B.length=(((i+1) % B.length:Nat):Int):=rfl
  have hml:(i+1) % B.length<B.length:=Nat.mod_lt _ (by omega)
  have f4:((i+1) % B.length<B.length)=True:=eq_true hml
  have f5:((i+1) % B.length*8+8≤B.length*8)=True:=eq_true (by omega)
  have f6:((B.length:Int)=0)=False:=eq_false (by omega)
  have f6':(B.length=0)=False:=eq_false (by omega)
  have v1:=vF B i
  have v2:=vF B ((i+1) % B.length)
  have s1:=hb i; have s2:=hb ((i+1) % B.length)
  have hap:=Q0 vC 8 v0 (Hi A A.length ++ Mq B i) (dB B i) (by omega)
  rw [List.append_assoc,← PT,List.length_append,C0,Ea] at hap
  have ea:A.length+(i+1)=A.length+i+1:=by omega
  simp only [ea] at nx
  have c1:=IK (B.getD ((i+1) % B.length) v0) (B.getD i v0) (by omega) (by omega)
  rw [show RT (B.getD ((i+1) % B.length) v0) (B.getD i v0)=dB B i from rfl] at c1
  refine X0 1000 ?_
  simp only [X5,w1,f1,f2,f3,f4,f5,f6,f6',hm,v1,v2,Int.toNat_natCast,↓X2,wA,seval,wE]
  refine X1 c1 rfl ?_
  simp only [w1,↓X2,wA,seval,wE]
  exact ⟨⟨BQ _,by omega,by omega⟩,nx _ (by omega) (by omega) (Xz (m:=1) (Nat.zero_le _) rfl (by simp [Xh,X5,I]) (by simp [Xi,Xv,X5,I]) (by rw [← hap]; rfl) (by simp [Xy,bA,bB]) (by simp [Xy,bA,bB]) (by simp [br]))⟩
 obtain rfl:i=B.length:=by omega
 have hl:(Hi A A.length ++ Mq B B.length).length=A.length+B.length:=by rw [List.length_append,C0,Ea]
 have h4:=sX (Hi A A.length ++ Mq B B.length) (JA (1,0)) (JA (0,1)) (JA (-1,0)) (JA (0,-1))
 rw [hl] at h4
 have c1:=GZ 1 0 ⟨by omega,by omega⟩ ⟨by omega,by omega⟩
 have c2:=GZ 0 1 ⟨by omega,by omega⟩ ⟨by omega,by omega⟩
 have c3:=GZ (-1) 0 ⟨by omega,by omega⟩ ⟨by omega,by omega⟩
 have c4:=GZ 0 (-1) ⟨by omega,by omega⟩ ⟨by omega,by omega⟩
 have hlen:(ZZ A B).length=A.length+B.length+4:=by unfold ZZ; rw [List.length_append,hl]; rfl
 rw [show (⟨((1:Int):Rat),((0:Int):Rat)⟩:V2)=JA (1,0) from rfl] at c1
 rw [show (⟨((0:Int):Rat),((1:Int):Rat)⟩:V2)=JA (0,1) from rfl] at c2
 rw [show (⟨((-1:Int):Rat),((0:Int):Rat)⟩:V2)=JA (-1,0) from rfl] at c3
 rw [show (⟨((0:Int):Rat),((-1:Int):Rat)⟩:V2)=JA (0,-1) from rfl] at c4
 have hD:ZZ A B=(Hi A A.length ++ Mq B B.length) ++ [JA (1,0),JA (0,1),JA (-1,0),JA (0,-1)]:=rfl
 generalize JA (1,0)=E1 at *
 generalize JA (0,1)=E2 at *
 generalize JA (-1,0)=E3 at *
 generalize JA (0,-1)=E4 at *
 refine X0 1000 ?_
 simp only [X5,Int.lt_irrefl,Nat.lt_irrefl,↓X2,wA,seval,wE]
 refine X1 c1 rfl ?_
 simp only [↓X2,wA,seval,wE]
 refine X1 c2 rfl ?_
 simp only [↓X2,wA,seval,wE]
 refine X1 c3 rfl ?_
 simp only [↓X2,wA,seval,wE]
 refine X1 c4 rfl ?_
 simp only [↓X2,wA,seval,wE]
 refine ⟨⟨u6 E1 E2 E3 E4,by omega,by omega⟩,?_⟩
 rw [hR]
 refine At rfl ?_
 rw [X5,hlen]
 refine Qz (n:=A.length+B.length+4) (.inl rfl) (by omega) (fun h=>by omega) fun j hj=>?_
 rw [Nat.zero_add,hD,← h4 j hj]
 have:=Xd (hvc ((Hi A A.length ++ Mq B B.length ++ [E1,E2,E3,E4]).getD (j / 8) v0)) (j % 8)
 have e:Settled (Xw vC 8 v0 (Hi A A.length ++ Mq B B.length ++ [E1,E2,E3,E4]) j):=this
 rw [← h4 j hj] at e
 exact e.sees _
theorem iU (A B:List V2) (c:Nat) (ha:XU A c) (hb:XU B c) (hc:c≤10000) (la:A.length<100000) (lb:B.length<100000):Fn Tryz.prog 265 [Xt A,Xt B] (Xt (ZZ A B)):=by
 have hvc:∀ a:V2,∀ x∈vC a,Settled x:=fun a=>by simp [vC,X7,X3]
 have bA:Jq 1 (Xt A)=True:=eq_true (X6 (Xf A))
 have bB:Jq 1 (Xt B)=True:=eq_true (X6 (Xf B))
 have br:∀ i l n,XI 1 (.row i n (Xw vC 8 v0 l))=True:=fun i l n=>eq_true fun j _=>X6 (Xd (hvc _) _)
 obtain ⟨R,hR⟩:∃ R,R=Xt (ZZ A B):=⟨_,rfl⟩
 rw [← hR]
 refine Fq Tryz.call265 Tryz.func265 8 [] [5,9] [] (by simp [Xf]) (X0 1000 ?_)
 simp only [AS.start,X5,↓X2,wA,seval,wE]
 refine Xe (fun i:Nat=>⟨8,[],[Xt A,Xt B,.any,.any,.any,.osl 0 i 8 0 i,I i,.any],[],[.row i (i*8) (Xw vC 8 v0 (Hi A i))]⟩) (fun i=>i≤A.length) (fun i=>A.length - i) 0 (by omega)
  (Sub.trans (Qg 5 8 (Xw vC 8 v0 []) rfl) (Xa rfl (by simp [AS.put,Xh,X5,I]) (by simp [AS.put,Xi]) (by simp [AS.put,Hi]))) ?_
 intro i hi next
 have w1:=wj i (by omega)
 by_cases hi2:i<A.length
 ·have nx:=next (i+1)
  have f1:((i:Int)<A.length)=True:=eq_true (by omega)
  have f2:(i<A.length)=True:=eq_true hi2
  have f3:(i*8+8≤A.length*8)=True:=eq_true (by omega)
  have hm:((i+1:Nat):Int).tmod A.length=(((i+1) % A.length:Nat):Int):=rfl
  have hml:(i+1) % A.length<A.length:=Nat.mod_lt _ (by omega)
  have f4:((i+1) % A.length<A.length)=True:=eq_true hml
  have f5:((i+1) % A.length*8+8≤A.length*8)=True:=eq_true (by omega)
  have f6:((A.length:Int)=0)=False:=eq_false (by omega)
  have f6':(A.length=0)=False:=eq_false (by omega)
  have v1:=vF A i
  have v2:=vF A ((i+1) % A.length)
  have s1:=ha i; have s2:=ha ((i+1) % A.length)
  have hap:=Q0 vC 8 v0 (Hi A i) (dA A i) (by omega)
  rw [C0,← PR] at hap
  have c0:=OB A i (by omega) hi2
  have c1:=LZ (A.getD i v0) (A.getD ((i+1) % A.length) v0) (by omega) (by omega)
  rw [show RT (A.getD i v0) (A.getD ((i+1) % A.length) v0)=dA A i from rfl] at c1
  refine X0 1000 ?_
  simp only [X5,w1,f1,f2,f3,f4,f5,f6,f6',hm,v1,v2,Int.toNat_natCast,↓X2,wA,seval,wE]
  refine X1 c0 rfl ?_
  simp only [X5,w1,f1,f2,f3,f4,f5,f6,f6',hm,v1,v2,Int.toNat_natCast,↓X2,wA,seval,wE]
  refine X1 c1 rfl ?_
  simp only [w1,↓X2,wA,seval,wE]
  exact ⟨⟨BQ _,by omega,by omega⟩,nx _ (by omega) (by omega) (Xz (m:=1) (Nat.zero_le _) rfl (by simp [Xh,X5,I]) (by simp [Xi]) (by rw [← hap]; rfl) (by simp [Xy,bA,bB]) (by simp [Xy,bA,bB]) (by simp [br]))⟩
 obtain rfl:i=A.length:=by omega
 refine X0 1000 ?_
 simp only [X5,Int.lt_irrefl,Nat.lt_irrefl,↓X2,wA,seval,wE]
 refine Xe (fun i:Nat=>⟨8,[],[Xt A,Xt B,.any,.any,.any,.osl 0 (A.length+i) 8 0 (A.length+i),.any,I i],[],[.row (A.length+i) ((A.length+i)*8) (Xw vC 8 v0 (Hi A A.length ++ Mq B i))]⟩) (fun i=>i≤B.length) (fun i=>B.length - i) 0 (by omega)
  (Xa rfl (by simp [Xh,X5,I]) (by simp [Xi]) (by simp [Mq])) ?_
 intro i hi next
 have w1:=wj i (by omega)
 by_cases hi2:i<B.length
 ·have nx:=next (i+1)
  have f1:((i:Int)<B.length)=True:=eq_true (by omega)
  have f2:(i<B.length)=True:=eq_true hi2
  have f3:(i*8+8≤B.length*8)=True:=eq_true (by omega)
  have hm:((i+1:Nat):Int).tmod B.length=(((i+1) % B.length:Nat):Int):=rfl
  have hml:(i+1) % B.length<B.length:=Nat.mod_lt _ (by omega)
  have f4:((i+1) % B.length<B.length)=True:=eq_true hml
  have f5:((i+1) % B.length*8+8≤B.length*8)=True:=eq_true (by omega)
  have f6:((B.length:Int)=0)=False:=eq_false (by omega)
  have f6':(B.length=0)=False:=eq_false (by omega)
  have v1:=vF B i
  have v2:=vF B ((i+1) % B.length)
  have s1:=hb i; have s2:=hb ((i+1) % B.length)
  have hap:=Q0 vC 8 v0 (Hi A A.length ++ Mq B i) (dB B i) (by omega)
  rw [List.append_assoc,← PT,List.length_append,C0,Ea] at hap
  have ea:A.length+(i+1)=A.length+i+1:=by omega
  simp only [ea] at nx
  have c0:=OB B i (by omega) hi2
  have c1:=LZ (B.getD i v0) (B.getD ((i+1) % B.length) v0) (by omega) (by omega)
  have vn:=V6 (B.getD i v0) (B.getD ((i+1) % B.length) v0)
  have c2:=OT (RT (B.getD i v0) (B.getD ((i+1) % B.length) v0)) (by unfold vm; omega)
  rw [np,show RT (B.getD ((i+1) % B.length) v0) (B.getD i v0)=dB B i from rfl] at c2
  refine X0 1000 ?_
  simp only [X5,w1,f1,f2,f3,f4,f5,f6,f6',hm,v1,v2,Int.toNat_natCast,↓X2,wA,seval,wE]
  refine X1 c0 rfl ?_
  simp only [X5,w1,f1,f2,f3,f4,f5,f6,f6',hm,v1,v2,Int.toNat_natCast,↓X2,wA,seval,wE]
  refine X1 c1 rfl ?_
  simp only [X5,w1,f1,f2,f3,f4,f5,f6,f6',hm,v1,v2,Int.toNat_natCast,↓X2,wA,seval,wE]
  refine X1 c2 rfl ?_
  simp only [w1,↓X2,wA,seval,wE]
  exact ⟨⟨BQ _,by omega,by omega⟩,nx _ (by omega) (by omega) (Xz (m:=1) (Nat.zero_le _) rfl (by simp [Xh,X5,I]) (by simp [Xi]) (by rw [← hap]; rfl) (by simp [Xy,bA,bB]) (by simp [Xy,bA,bB]) (by simp [br]))⟩
 obtain rfl:i=B.length:=by omega
 have hl:(Hi A A.length ++ Mq B B.length).length=A.length+B.length:=by rw [List.length_append,C0,Ea]
 have h4:=sX (Hi A A.length ++ Mq B B.length) (JA (1,0)) (JA (0,1)) (JA (-1,0)) (JA (0,-1))
 rw [hl] at h4
 have c1:=As 1 0 ⟨by omega,by omega⟩ ⟨by omega,by omega⟩
 have c2:=As 0 1 ⟨by omega,by omega⟩ ⟨by omega,by omega⟩
 have c3:=As (-1) 0 ⟨by omega,by omega⟩ ⟨by omega,by omega⟩
 have c4:=As 0 (-1) ⟨by omega,by omega⟩ ⟨by omega,by omega⟩
 have hlen:(ZZ A B).length=A.length+B.length+4:=by unfold ZZ; rw [List.length_append,hl]; rfl
 rw [show (⟨((1:Int):Rat),((0:Int):Rat)⟩:V2)=JA (1,0) from rfl] at c1
 rw [show (⟨((0:Int):Rat),((1:Int):Rat)⟩:V2)=JA (0,1) from rfl] at c2
 rw [show (⟨((-1:Int):Rat),((0:Int):Rat)⟩:V2)=JA (-1,0) from rfl] at c3
 rw [show (⟨((0:Int):Rat),((-1:Int):Rat)⟩:V2)=JA (0,-1) from rfl] at c4
 have hD:ZZ A B=(Hi A A.length ++ Mq B B.length) ++ [JA (1,0),JA (0,1),JA (-1,0),JA (0,-1)]:=rfl
 generalize JA (1,0)=E1 at *
 generalize JA (0,1)=E2 at *
 generalize JA (-1,0)=E3 at *
 generalize JA (0,-1)=E4 at *
 refine X0 1000 ?_
 simp only [X5,Int.lt_irrefl,Nat.lt_irrefl,↓X2,wA,seval,wE]
 refine X1 c1 rfl ?_
 simp only [↓X2,wA,seval,wE]
 refine X1 c2 rfl ?_
 simp only [↓X2,wA,seval,wE]
 refine X1 c3 rfl ?_
 simp only [↓X2,wA,seval,wE]
 refine X1 c4 rfl ?_
 simp only [↓X2,wA,seval,wE]
 refine ⟨⟨u6 E1 E2 E3 E4,by omega,by omega⟩,?_⟩
 rw [hR]
 refine At rfl ?_
 rw [X5,hlen]
 refine Qz (n:=A.length+B.length+4) (.inl rfl) (by omega) (fun h=>by omega) fun j hj=>?_
 rw [Nat.zero_add,hD,← h4 j hj]
 have:=Xd (hvc ((Hi A A.length ++ Mq B B.length ++ [E1,E2,E3,E4]).getD (j / 8) v0)) (j % 8)
 have e:Settled (Xw vC 8 v0 (Hi A A.length ++ Mq B B.length ++ [E1,E2,E3,E4]) j):=this
 rw [← h4 j hj] at e
 exact e.sees _
def Nc (p:V2→Bool):List V2→V2×Bool
 | []=>(v0,false)
 | x :: l=>if p x=true then (x,true) else Nc p l
theorem GR {p:V2→Bool}:∀ {s:List V2} {j:Nat},j<s.length→p (s.getD j v0)=true→(∀ i,i<j→p (s.getD i v0)=false)→Nc p s=(s.getD j v0,true)
 | [],j,h,_,_=>absurd h (Nat.not_lt_zero j)
 | x :: l,0,_,h,_=>if_pos h
 | x :: l,j+1,hj,h,hno=>by
  have h0:p x=false:=hno 0 (by omega)
  have ih:=GR (p:=p) (s:=l) (j:=j) (by simpa using hj) h (fun i hi=>hno (i+1) (by omega))
  show (if p x=true then (x,true) else Nc p l)=_
  rw [if_neg (by rw [h0]; decide),ih]
  rfl
theorem F6 {p:V2→Bool}:∀ {s:List V2},(∀ i,i<s.length→p (s.getD i v0)=false)→Nc p s=(v0,false)
 | [],_=>rfl
 | x :: l,hno=>by
  have h0:p x=false:=hno 0 (by simp)
  have ih:=F6 (p:=p) (s:=l) (fun i hi=>hno (i+1) (by simpa using hi))
  show (if p x=true then (x,true) else Nc p l)=_
  rw [if_neg (by rw [h0]; decide),ih]
noncomputable def A0 (A B:List V2) (e:Rat):V2×Bool:=Nc (fun d=>decide (H9 d A B e)) (ZZ A B)
structure Shp (c:Nat) (A:List V2):Prop where
 small:XU A c
 pos:0<A.length
 len:A.length<10000
theorem Ph (A B:List V2) (e:Rat) (c:Nat) (ha:Shp c A) (hb:Shp c B) (h1:1≤c) (hc:c≤1000) (he:qb e≤10000):Fn Tryz.prog 244 [Xt A,Xt B,qA e] (.tup [vA (A0 A B e).1,.bool (A0 A B e).2]):=by
 obtain ⟨a1,a2,a3⟩:=ha
 obtain ⟨b1,b2,b3⟩:=hb
 obtain ⟨R,hR⟩:∃ R,R=A0 A B e:=⟨_,rfl⟩
 rw [← hR]
 have cd:=dO A B c a1 b1 (by omega) (by omega) (by omega)
 have hds:=La A B c a1 b1 h1
 unfold A0 at hR
 have hlen:(ZZ A B).length=A.length+B.length+4:=by unfold ZZ; rw [List.length_append,List.length_append,C0,Ea]; rfl
 generalize ZZ A B=D at *
 have be:XI 2 (.row 0 4 (Xq (qC e)))=True:=eq_true (XG (by simp [qC,X7,X3]))
 have bz:XI 2 (.row 0 8 (Xq XM))=True:=eq_true (XG (KW [] [] ⟨0,0,0,0,0,v0,v0,v0⟩ 0))
 have bA:Jq 2 (Xt A)=True:=eq_true (X6 (Xf A))
 have bB:Jq 2 (Xt B)=True:=eq_true (X6 (Xf B))
 have bD:Jq 2 (Xt D)=True:=eq_true (X6 (Xf D))
 refine Fq Tryz.call244 Tryz.func244 10 [12,13,14] [] [] (by simp [Xf,Xc]) (X0 1000 ?_)
 simp only [AS.start,X5,↓X2,wA,seval,wE]
 refine X1 cd rfl ?_
 simp only [X5,↓X2,wA,seval,wE]
 refine Xe (fun i:Nat=>⟨10,[12,13,14],[Xt A,Xt B,.any,.any,.any,.ref 0 0 0,.ref 1 0 0,.bool false,.any,.any],[(12,Xt D),(13,I D.length),(14,I i)],[.row 0 4 (Xq (qC e)),.row 0 8 (Xq XM)]⟩) (fun i=>i≤D.length∧∀ j,j<i→decide (H9 (D.getD j v0) A B e)=false) (fun i=>D.length - i) 0 ⟨by omega,by omega⟩
  (Xa rfl (by simp [Xh,X5,I]) (by simp [Xi,Xv,X5,I]) (by simp [qC,XM,X4])) ?_
 rintro i ⟨hi,hno⟩ next
 have w1:=wj i (by omega)
 by_cases hi2:i<D.length
 rotate_left
 ·obtain rfl:i=D.length:=by omega
  rw [F6 hno] at hR
  refine X0 1000 ?_
  simp only [X5,XM,Int.lt_irrefl,Nat.lt_irrefl,↓X2,wA,seval,wE]
  subst hR
  exact QJ rfl (Xp Jn rfl rfl rfl) (by unfold Qp; rfl) (Xr (Xm _) (XP Zb)) ((X3 _).sees _)
 have f1:((i:Int)<D.length)=True:=eq_true (by omega)
 have f2:(i<D.length)=True:=eq_true hi2
 have f3:(i*8+8≤D.length*8)=True:=eq_true (by omega)
 have v1:=vF D i
 have hs:=hds _ (Ev hi2)
 have cs:=OX (D.getD i v0) A B e c a1 b1 (by omega) (by omega) (by omega) a2 b2 (by omega) he
 have nx:=next (i+1)
 refine X0 1000 ?_
 simp only [X5,w1,f1,f2,f3,v1,Int.toNat_natCast,↓X2,wA,seval,wE]
 refine X1 cs rfl ?_
 by_cases hsep:H9 (D.getD i v0) A B e
 ·have hd:decide (H9 (D.getD i v0) A B e)=true:=decide_eq_true hsep
  rw [hd]
  rw [GR hi2 hd hno] at hR
  simp only [X5,XM,w1,f1,f2,f3,v1,Int.toNat_natCast,↓X2,wA,seval,wE]
  subst hR
  exact QJ rfl (Xp Jn rfl rfl rfl) (by unfold Qp; rfl) (Xr (Xm _) (XP (XS (vC (D.getD i v0))))) ((X3 _).sees _)
 ·have hd:decide (H9 (D.getD i v0) A B e)=false:=decide_eq_false hsep
  rw [hd]
  simp only [w1,↓X2,wA,seval,wE]
  exact nx _ ⟨by omega,JJ.2 ⟨hno,hd⟩⟩ (by omega) (Xz (m:=2) (Nat.zero_le _) rfl (by simp [Xh,X5,I]) (by simp [Xi,Xv,X5,I]) (by simp [qC,XM,X4]) (by simp [Xy,bA,bB,bD]) (by simp [Xy,bD]) (by simp [be,bz]))
theorem iY (A B:List V2) (e:Rat) (c:Nat) (ha:Shp c A) (hb:Shp c B) (h1:1≤c) (hc:c≤1000) (he:qb e≤10000):Fn Tryz.prog 248 [Xt A,Xt B,qA e] (.tup [vA (A0 A B e).1,.bool (A0 A B e).2]):=by
 obtain ⟨a1,a2,a3⟩:=ha
 obtain ⟨b1,b2,b3⟩:=hb
 obtain ⟨R,hR⟩:∃ R,R=A0 A B e:=⟨_,rfl⟩
 rw [← hR]
 have cd:=iU A B c a1 b1 (by omega) (by omega) (by omega)
 have hds:=La A B c a1 b1 h1
 unfold A0 at hR
 have hlen:(ZZ A B).length=A.length+B.length+4:=by unfold ZZ; rw [List.length_append,List.length_append,C0,Ea]; rfl
 generalize ZZ A B=D at *
 have be:XI 2 (.con 0 4 (Xq (qC e)))=True:=eq_true (fun j _=>X6 (Xd (by simp [qC,X7,X3]) j))
 have bz:XI 2 (.row 0 8 (Xq XM))=True:=eq_true (XG (KW [] [] ⟨0,0,0,0,0,v0,v0,v0⟩ 0))
 have bA:Jq 2 (Xt A)=True:=eq_true (X6 (Xf A))
 have bB:Jq 2 (Xt B)=True:=eq_true (X6 (Xf B))
 have bD:Jq 2 (Xt D)=True:=eq_true (X6 (Xf D))
 refine Fq Tryz.call248 Tryz.func248 10 [] [5,60000005] [] (by simp [Xf,Xc]) (X0 1000 ?_)
 simp only [AS.start,X5,↓X2,wA,seval,wE]
 refine X1 cd rfl ?_
 simp only [X5,↓X2,wA,seval,wE]
 refine Xe (fun i:Nat=>⟨10,[],[Xt A,Xt B,.any,.any,.any,.ref 0 0 0,.ref 1 0 0,.bool false,Xt D,I i],[],[.con 0 4 (Xq (qC e)),.row 0 8 (Xq XM)]⟩) (fun i=>i≤D.length∧∀ j,j<i→decide (H9 (D.getD j v0) A B e)=false) (fun i=>D.length - i) 0 ⟨by omega,by omega⟩
  (Sub.trans (Qr 0 rfl) (Xa rfl (by simp [Xh,X5,I]) (by simp [Xi]) (by simp [qC,XM,X4]))) ?_
 rintro i ⟨hi,hno⟩ next
 have w1:=wj i (by omega)
 by_cases hi2:i<D.length
 rotate_left
 ·obtain rfl:i=D.length:=by omega
  rw [F6 hno] at hR
  refine X0 1000 ?_
  simp only [X5,XM,Int.lt_irrefl,Nat.lt_irrefl,↓X2,wA,seval,wE]
  subst hR
  exact QJ rfl (Xp Jn rfl rfl rfl) (by unfold Qp; rfl) (Xr (Xm _) (XP Zb)) ((X3 _).sees _)
 have f1:((i:Int)<D.length)=True:=eq_true (by omega)
 have f2:(i<D.length)=True:=eq_true hi2
 have f3:(i*8+8≤D.length*8)=True:=eq_true (by omega)
 have v1:=vF D i
 have hs:=hds _ (Ev hi2)
 have cs:=MQ (D.getD i v0) A B e c a1 b1 (by omega) (by omega) (by omega) a2 b2 (by omega) he
 have nx:=next (i+1)
 refine X0 1000 ?_
 simp only [X5,w1,f1,f2,f3,v1,Int.toNat_natCast,↓X2,wA,seval,wE]
 refine X1 cs rfl ?_
 by_cases hsep:H9 (D.getD i v0) A B e
 ·have hd:decide (H9 (D.getD i v0) A B e)=true:=decide_eq_true hsep
  rw [hd]
  rw [GR hi2 hd hno] at hR
  simp only [X5,XM,w1,f1,f2,f3,v1,Int.toNat_natCast,↓X2,wA,seval,wE]
  subst hR
  exact QJ rfl (Xp Jn rfl rfl rfl) (by unfold Qp; rfl) (Xr (Xm _) (XP (XS (vC (D.getD i v0))))) ((X3 _).sees _)
 ·have hd:decide (H9 (D.getD i v0) A B e)=false:=decide_eq_false hsep
  rw [hd]
  simp only [w1,↓X2,wA,seval,wE]
  exact nx _ ⟨by omega,JJ.2 ⟨hno,hd⟩⟩ (by omega) (Xz (m:=2) (Nat.zero_le _) rfl (by simp [Xh,X5,I]) (by simp [Xi]) (by simp [qC,XM,X4]) (by simp [Xy,bA,bB,bD]) (by simp [Xy,bD]) (by simp [be,bz]))
noncomputable def GA (l:List (List V2)):AV:=Qk Xt [] l
theorem XC (l:List (List V2)):GA l=.sl l.length l.length (Q4 Xt [] l) false:=nrfl rfl
theorem K5 (l:List (List V2)):Settled (GA l):=J0 fun _ _=>Xf _
theorem pE (l:List (List V2)) (i:Nat):Q4 Xt [] l i=Xt (l.getD i []):=nrfl rfl
noncomputable def ZB (A B:List (List V2)) (e:Rat) (i k:Nat):Bool:=(A0 (A.getD i []) (B.getD k []) e).2
noncomputable def MA (A B:List (List V2)) (e:Rat) (i:Nat):Bool:=decide (∀ k,k<B.length→ZB A B e i k=true)
noncomputable def Mz (A B:List (List V2)) (e:Rat):Bool:=decide (∀ i,i<A.length→MA A B e i=true)
theorem Vi {A B:List (List V2)} {e:Rat} {i k:Nat} (h:k<B.length) (hp:ZB A B e i k=false):MA A B e i=false :=
 decide_eq_false fun H=>by rw [H k h] at hp; cases hp
theorem kT {A B:List (List V2)} {e:Rat} {i:Nat} (h:i<A.length) (hp:MA A B e i=false):Mz A B e=false :=
 decide_eq_false fun H=>by rw [H i h] at hp; cases hp
theorem nL (A B:List (List V2)) (e:Rat) (c:Nat) (ha:∀ i,i<A.length→Shp c (A.getD i [])) (hb:∀ i,i<B.length→Shp c (B.getD i [])) (h1:1≤c) (hc:c≤1000) (he:qb e≤10000) (la:A.length≤1000) (lb:B.length≤1000) :
  Fn Tryz.prog 214 [GA A,GA B,qA e] (.tup [.any,.bool (Mz A B e)]):=by
 have hvc:∀ a:V2,∀ x∈vC a,Settled x:=fun a=>by simp [vC,X7,X3]
 have be:XI 2 (.con 0 4 (Xq (qC e)))=True:=eq_true (fun j _=>X6 (Xd (by simp [qC,X7,X3]) j))
 have bA:Jq 2 (GA A)=True:=eq_true (X6 (K5 A))
 have bB:Jq 2 (GA B)=True:=eq_true (X6 (K5 B))
 have br:∀ i l n,XI 2 (.row i n (Xw vC 8 v0 l))=True:=fun i l n=>eq_true fun j _=>X6 (Xd (hvc _) _)
 have vA':=fun i=>pE A i
 have vB':=fun i=>pE B i
 refine Fq Tryz.call214 Tryz.func214 13 [] [8,90000005] [] (by simp [K5,Xc]) (X0 1000 ?_)
 simp only [AS.start,XC,↓X2,wA,seval,wE]
 refine Xe (fun w:Nat×List V2=>⟨13,[],[GA A,GA B,.any,.any,.any,.ref 0 0 0,.any,.any,.osl 1 w.2.length 8 0 w.2.length,I w.1,.any,.any,.any],[],[.con 0 4 (Xq (qC e)),.row w.2.length (w.2.length*8) (Xw vC 8 v0 w.2)]⟩) (fun w=>w.1≤A.length∧w.2.length=w.1*B.length∧∀ j,j<w.1→MA A B e j=true) (fun w=>A.length - w.1) (0,[]) ⟨by simp,by simp,fun j hj=>absurd hj (Nat.not_lt_zero j)⟩
  (Sub.trans (Qr 0 rfl) (Sub.trans (Qg 8 8 (Xw vC 8 v0 []) rfl) (Xa rfl (by simp [AS.put,Xh,XC,I]) (by simp [Xi]) (by simp [qC,X4])))) ?_
 rintro ⟨i,W⟩ ⟨hi,hW,hno⟩ next
 replace hi:i≤A.length:=hi
 replace hW:W.length=i*B.length:=hW
 replace hno:∀ j,j<i→MA A B e j=true:=hno
 have w1:=wj i (by omega)
 by_cases hi2:i<A.length
 rotate_left
 ·obtain rfl:i=A.length:=by omega
  have hR:Mz A B e=true:=decide_eq_true hno
  rw [hR]
  refine X0 1000 ?_
  simp only [XC,Int.lt_irrefl,Nat.lt_irrefl,↓X2,wA,seval,wE]
  exact Sn rfl (Zs ⟨Xr ZM (Gv _),(X3 _).sees _,trivial⟩)
 have f1:((i:Int)<A.length)=True:=eq_true (by omega)
 have f2:(i<A.length)=True:=eq_true hi2
 have f3:(i+1≤A.length)=True:=eq_true (by omega)
 refine X0 1000 ?_
 simp only [XC,w1,f1,f2,f3,↓X2,wA,seval,wE]
 refine Xe (fun w:Nat×List V2=>⟨13,[],[GA A,GA B,.any,.any,.any,.ref 0 0 0,.any,.any,.osl 1 w.2.length 8 0 w.2.length,I i,I w.1,.any,.any],[],[.con 0 4 (Xq (qC e)),.row w.2.length (w.2.length*8) (Xw vC 8 v0 w.2)]⟩) (fun w=>w.1≤B.length∧w.2.length=i*B.length+w.1∧∀ k,k<w.1→ZB A B e i k=true) (fun w=>B.length - w.1) (0,W) ⟨by simp,by simpa using hW,fun j hj=>absurd hj (Nat.not_lt_zero j)⟩
  (Xa rfl (by simp [Xh,XC,I]) (by simp [Xi]) (by simp [qC,X4])) ?_
 rintro ⟨k,Y⟩ ⟨hk,hY,hyes⟩ next2
 replace hk:k≤B.length:=hk
 replace hY:Y.length=i*B.length+k:=hY
 replace hyes:∀ j,j<k→ZB A B e i j=true:=hyes
 have w2:=wj k (by omega)
 by_cases hk2:k<B.length
 rotate_left
 ·obtain rfl:k=B.length:=by omega
  have nx:=next (i+1,Y)
  refine X0 1000 ?_
  simp only [XC,w1,Int.lt_irrefl,Nat.lt_irrefl,↓X2,wA,seval,wE]
  exact nx _ ⟨by omega,by simp only; rw [hY,Nat.succ_mul],JJ.2 ⟨hno,decide_eq_true hyes⟩⟩ (by simp only; omega) (Xa rfl (by simp [Xh,XC,I]) (by simp [Xi]) (by simp [qC,X4]))
 have g1:((k:Int)<B.length)=True:=eq_true (by omega)
 have g2:(k<B.length)=True:=eq_true hk2
 have g3:(k+1≤B.length)=True:=eq_true (by omega)
 have cf:=iY (A.getD i []) (B.getD k []) e c (ha i hi2) (hb k hk2) h1 hc he
 have hb1:i*B.length≤1000*1000:=Nat.mul_le_mul (by omega) lb
 have hap:=Q0 vC 8 v0 Y (A0 (A.getD i []) (B.getD k []) e).1 (by omega)
 refine X0 1000 ?_
 simp only [XC,w1,w2,f1,f2,f3,g1,g2,g3,vA',vB',Int.toNat_natCast,↓X2,wA,seval,wE]
 refine X1 cf rfl ?_
 have hpk:ZB A B e i k=(A0 (A.getD i []) (B.getD k []) e).2:=rfl
 cases hv:(A0 (A.getD i []) (B.getD k []) e).2 with
 | false =>
  have hR:Mz A B e=false:=kT hi2 (Vi hk2 (hpk.trans hv))
  rw [hR]
  simp only [w1,w2,↓X2,wA,seval,wE]
  exact Sn rfl (Zs ⟨Xr ZM (Gv _),(X3 _).sees _,trivial⟩)
 | true =>
  have nx:=next2 (k+1,Y ++ [(A0 (A.getD i []) (B.getD k []) e).1])
  simp only [List.length_append,List.length_singleton] at nx
  simp only [w1,w2,↓X2,wA,seval,wE]
  exact ⟨⟨BQ _,by omega,by omega⟩,nx _ ⟨by omega,by omega,JJ.2 ⟨hyes,hpk.trans hv⟩⟩ (by omega) (Xz (m:=2) (Nat.zero_le _) rfl (by simp [Xh,XC,I]) (by simp [Xi]) (by rw [← hap]; rfl) (by simp [Xy,bA,bB]) (by simp [Xy]) (by simp [be,br]))⟩
def Zw (A:List (List V2)):AV:=.ptr 1 (Xq [GA A]) 0
theorem QW (A:List (List V2)):Zw A=.ptr 1 (Xq [GA A]) 0:=nrfl rfl
theorem Gj (A:List (List V2)):Settled (Zw A):=QV fun j hj=>by
 obtain rfl:j=0:=by omega
 exact K5 A
theorem iB (A B:List (List V2)):Fn Tryz.prog 243 [GA A,GA B] (.fn 260 [Zw A,Zw B]):=by
 have hset:Settled (.fn 260 [Zw A,Zw B]):=Jg (by
  intro a ha
  simp only [List.mem_cons,List.not_mem_nil,or_false] at ha
  rcases ha with rfl | rfl <;> exact Gj _)
 refine Fq Tryz.call243 Tryz.func243 5 [] [] [] (by simp [K5]) (X0 1000 ?_)
 simp only [AS.start,XC,↓X2,wA,seval,wE]
 refine At rfl (C7 ⟨KU (.inl rfl) (by omega) fun j hj=>?_,KU (.inl rfl) (by omega) fun j hj=>?_,trivial⟩)
 ·obtain rfl:j=0:=by omega
  exact (K5 A).sees _
 ·obtain rfl:j=0:=by omega
  exact (K5 B).sees _
theorem FI {P:Program} {tok:List Tok} {all:Array Oper} {i:Nat} {s:AS} {o:Oper} {v:AV} {h':List AO} (ho:all[i]?=some o) (hg:o.guard=none) (h:J2 P false none o.op s.ev s.h=some (v,h')) :
  GStep P tok (fun _=>false) true (fun _=>none) all i s (({ s with h:=h' }:AS).putO o.dst v):=⟨o,ho,.inl ⟨by unfold gval; rw [hg],⟨fun _ h=>(by cases h),v,h',.inl h,rfl⟩⟩⟩
def P8 (m:Nat) (H:List AO):Prop:=H.length=m∧∀ o∈H,XI m o∧o≠.unborn∧∀ v n f,o≠.con v n f
theorem UD (A B:List (List V2)) (t:Tok) (m:Nat) (Hs:Nat→List AO) (la:A.length≤1000) (lb:B.length≤1000) (hHs:∀ n,P8 m (Hs n)) (hce:t.ce.H.length≤m)
  (hy:∀ i k,i<A.length→k<B.length→YCall Tryz.prog t [Xt (A.getD i []),Xt (B.getD k [])] (Hs (i*B.length+k)) (.bool true) (Hs (i*B.length+k+1))) :
  ICall Tryz.prog t 260 [.yld t.l,Zw A,Zw B] (Hs 0) (Hs (A.length*B.length)):=by
 have vA':=fun i=>pE A i
 have vB':=fun i=>pE B i
 refine ICall.intro (fn:=Tryz.f260) Tryz.call260 Tryz.func260 rfl mixed 8 [8,9,10,14,15,16] [] [] (by kernel_rfl) (Nat.le_of_ble_eq_true rfl) (by rw [(hHs 0).1]; exact hce) (by rw [(hHs 0).1]; exact fun o ho=>((hHs _).2 o ho).1) (X0 1000 ?_)
 simp only [AS.start,QW,XC,↓X2,wA,seval,wE]
 refine Xe (fun i:Nat=>⟨8,[8,9,10,14,15,16],[.yld t.l,Zw A,Zw B,.any,.any,.any,.any,.any],[(8,GA A),(9,I A.length),(10,I i)],Hs (i*B.length)⟩) (fun i=>i≤A.length) (fun i=>A.length - i) 0 (by omega)
  (Xa rfl (by simp [Xh,QW,XC]) (by simp [Xi,Xv,XC,I]) (by simp)) ?_
 intro i hi next
 have w1:=wj i (by omega)
 by_cases hi2:i<A.length
 rotate_left
 ·obtain rfl:i=A.length:=by omega
  refine X0 1000 ?_
  simp only [QW,XC,Int.lt_irrefl,Nat.lt_irrefl,↓X2,wA,seval,wE]
  exact rW rfl (by show (Hs _).take (Hs 0).length=_; rw [(hHs 0).1,← (hHs (A.length*B.length)).1,List.take_length])
 have f1:((i:Int)<A.length)=True:=eq_true (by omega)
 have f2:(i<A.length)=True:=eq_true hi2
 have f3:(i+1≤A.length)=True:=eq_true (by omega)
 refine X0 1000 ?_
 simp only [QW,XC,w1,f1,f2,f3,vA',Int.toNat_natCast,↓X2,wA,seval,wE]
 refine Xe (fun k:Nat=>⟨8,[8,9,10,14,15,16],[.yld t.l,Zw A,Zw B,.any,.any,Xt (A.getD i []),.any,.any],[(14,GA B),(15,I B.length),(16,I k),(8,GA A),(9,I A.length),(10,I i)],Hs (i*B.length+k)⟩) (fun k=>k≤B.length) (fun k=>B.length - k) 0 (by omega)
  (Xa rfl (by simp [Xh,QW,XC,X5]) (by simp [Xi,Xv,XC,I]) (by simp)) ?_
 intro k hk next2
 have w2:=wj k (by omega)
 by_cases hk2:k<B.length
 rotate_left
 ·obtain rfl:k=B.length:=by omega
  refine X0 1000 ?_
  simp only [QW,XC,w1,Int.lt_irrefl,Nat.lt_irrefl,↓X2,wA,seval,wE]
  exact next (i+1) _ (by omega) (by omega) (Xa rfl (by simp [Xh,QW,XC]) (by simp [Xi,Xv,XC,I]) (by simp [Nat.succ_mul]))
 have g1:((k:Int)<B.length)=True:=eq_true (by omega)
 have g2:(k<B.length)=True:=eq_true hk2
 have g3:(k+1≤B.length)=True:=eq_true (by omega)
 refine X0 1000 ?_
 simp only [QW,XC,w1,w2,g1,g2,g3,vB',Int.toNat_natCast,↓X2,wA,seval,wE]
 obtain ⟨q1,q2⟩:=hHs (i*B.length+k)
 obtain ⟨q3,q4⟩:=hHs (i*B.length+k+1)
 refine CL (t:=t) (H1:=Hs (i*B.length+k)) (H1':=Hs (i*B.length+k+1)) (rest:=[]) rfl rfl (List.mem_singleton.2 rfl) (hy i k hi2 hk2) (List.append_nil _).symm (q3.trans q1.symm) (by rw [q1]; exact hce) ?_ (by rw [q1]; exact fun o ho=>(q2 o ho).1) (fun o ho=>(q2 o ho).2.1) (fun o ho=>(q4 o ho).2.1) (QP (fun o ho=>(q2 o ho).2.2) (fun o ho=>(q4 o ho).2.2)) ⟨Weak.rfl' _,Weak.rfl' _,trivial⟩ ?_
 ·intro a ha
  simp only [List.mem_cons,List.not_mem_nil,or_false] at ha
  rcases ha with rfl | rfl <;> exact X6 (Xf _)
 simp only [QW,XC,w1,w2,↓X2,wA,seval,wE]
 exact next2 (k+1) _ (by omega) (by omega) (Xa rfl (by simp [Xh,QW,XC]) (by simp [Xi,Xv,XC,I]) (by simp [Nat.add_assoc]))
theorem aM (A B:List (List V2)) (t:Tok) (m:Nat) (Hs:Nat→List AO) (Hf:List AO) (la:A.length≤1000) (lb:B.length≤1000) (hHs:∀ n,P8 m (Hs n)) (hce:t.ce.H.length≤m)
  (i0 k0:Nat) (hi0:i0<A.length) (hk0:k0<B.length) (hy:∀ i k,i<i0∨i=i0∧k<k0→k<B.length→YCall Tryz.prog t [Xt (A.getD i []),Xt (B.getD k [])] (Hs (i*B.length+k)) (.bool true) (Hs (i*B.length+k+1))) (hz:YC Tryz.prog t false [Xt (A.getD i0 []),Xt (B.getD k0 [])] (Hs (i0*B.length+k0)) Hf) (hHf:P8 m Hf) :
  ICallQ Tryz.prog t false 260 [.yld t.l,Zw A,Zw B] (Hs 0) Hf:=by
 have vA':=fun i=>pE A i
 have vB':=fun i=>pE B i
 refine ICallQ.intro (fn:=Tryz.f260) Tryz.call260 Tryz.func260 rfl mixed 8 [8,9,10,14,15,16] [] [] (by kernel_rfl) (Nat.le_of_ble_eq_true rfl) (by rw [(hHs 0).1]; exact hce) (by rw [(hHs 0).1]; exact fun o ho=>(hHf.2 o ho).1) (X0 1000 ?_)
 simp only [AS.start,QW,XC,↓X2,wA,seval,wE]
 refine Xe (fun i:Nat=>⟨8,[8,9,10,14,15,16],[.yld t.l,Zw A,Zw B,.any,.any,.any,.any,.any],[(8,GA A),(9,I A.length),(10,I i)],Hs (i*B.length)⟩) (fun i=>i≤i0) (fun i=>i0 - i) 0 (by omega)
  (Xa rfl (by simp [Xh,QW,XC]) (by simp [Xi,Xv,XC,I]) (by simp)) ?_
 intro i hi next
 have w1:=wj i (by omega)
 have hi2:i<A.length:=by omega
 have f1:((i:Int)<A.length)=True:=eq_true (by omega)
 have f2:(i<A.length)=True:=eq_true hi2
 have f3:(i+1≤A.length)=True:=eq_true (by omega)
 refine X0 1000 ?_
 simp only [QW,XC,w1,f1,f2,f3,vA',Int.toNat_natCast,↓X2,wA,seval,wE]
 refine Xe (fun k:Nat=>⟨8,[8,9,10,14,15,16],[.yld t.l,Zw A,Zw B,.any,.any,Xt (A.getD i []),.any,.any],[(14,GA B),(15,I B.length),(16,I k),(8,GA A),(9,I A.length),(10,I i)],Hs (i*B.length+k)⟩) (fun k=>k≤B.length∧(i=i0→k≤k0)) (fun k=>B.length - k) 0 ⟨by omega,by omega⟩
  (Xa rfl (by simp [Xh,QW,XC,X5]) (by simp [Xi,Xv,XC,I]) (by simp)) ?_
 rintro k ⟨hk,hkk⟩ next2
 have w2:=wj k (by omega)
 by_cases hk2:k<B.length
 rotate_left
 ·obtain rfl:k=B.length:=by omega
  refine X0 1000 ?_
  simp only [QW,XC,w1,Int.lt_irrefl,Nat.lt_irrefl,↓X2,wA,seval,wE]
  exact next (i+1) _ (by omega) (by omega) (Xa rfl (by simp [Xh,QW,XC]) (by simp [Xi,Xv,XC,I]) (by simp [Nat.succ_mul]))
 have g1:((k:Int)<B.length)=True:=eq_true (by omega)
 have g2:(k<B.length)=True:=eq_true hk2
 have g3:(k+1≤B.length)=True:=eq_true (by omega)
 by_cases hlast:i=i0∧k=k0
 ·obtain ⟨rfl,rfl⟩:=hlast
  refine X0 20 ?_
  simp only [QW,XC,w1,w2,g1,g2,g3,vB',Int.toNat_natCast,↓X2,wA,seval,wE]
  refine nT (t:=t) (j:=3) (l1:=[0,1,2]) (l2:=[4]) rfl rfl (List.mem_singleton.2 rfl) rfl rfl ⟨_,FI rfl rfl rfl,_,FI rfl rfl rfl,_,FI rfl rfl rfl,rfl⟩ ⟨rfl,_,_,_,[Xt (A.getD i []),Xt (B.getD k [])],Hf,rfl,rfl,⟨Weak.rfl' _,Weak.rfl' _,trivial⟩,hz,rfl⟩ ⟨_,FI rfl rfl rfl,rfl⟩ ?_
  show Run (tM Tryz.prog Tryz.f260 [] [] (Hs 0).length Hf) _ _
  refine Run.sub (s':=⟨8,[],[],[(24,.bool true)],Hf⟩) ?_ (Xa rfl trivial ⟨.inr rfl,trivial⟩ rfl)
  refine X0 1000 ?_
  simp only [↓X2,wA,seval,wE]
  exact uT rfl (by show Hf.take (Hs 0).length=_; rw [(hHs 0).1,← hHf.1,List.take_length])
 have hp:i<i0∨i=i0∧k<k0:=by omega
 refine X0 1000 ?_
 simp only [QW,XC,w1,w2,g1,g2,g3,vB',Int.toNat_natCast,↓X2,wA,seval,wE]
 obtain ⟨q1,q2⟩:=hHs (i*B.length+k)
 obtain ⟨q3,q4⟩:=hHs (i*B.length+k+1)
 refine CL (t:=t) (H1:=Hs (i*B.length+k)) (H1':=Hs (i*B.length+k+1)) (rest:=[]) rfl rfl (List.mem_singleton.2 rfl) (hy i k hp hk2) (List.append_nil _).symm (q3.trans q1.symm) (by rw [q1]; exact hce) ?_ (by rw [q1]; exact fun o ho=>(q2 o ho).1) (fun o ho=>(q2 o ho).2.1) (fun o ho=>(q4 o ho).2.1) (QP (fun o ho=>(q2 o ho).2.2) (fun o ho=>(q4 o ho).2.2)) ⟨Weak.rfl' _,Weak.rfl' _,trivial⟩ ?_
 ·intro a ha
  simp only [List.mem_cons,List.not_mem_nil,or_false] at ha
  rcases ha with rfl | rfl <;> exact X6 (Xf _)
 simp only [QW,XC,w1,w2,↓X2,wA,seval,wE]
 exact next2 (k+1) _ ⟨by omega,by omega⟩ (by omega) (Xa rfl (by simp [Xh,QW,XC]) (by simp [Xi,Xv,XC,I]) (by simp [Nat.add_assoc]))
noncomputable def mc (A B:List (List V2)) (e:Rat) (n:Nat):V2:=(A0 (A.getD (n / B.length) []) (B.getD (n % B.length) []) e).1
noncomputable def Dn (A B:List (List V2)) (e:Rat) (n:Nat):List V2:=(List.range n).map (mc A B e)
theorem fA (A B:List (List V2)) (e:Rat) (n:Nat):(Dn A B e n).length=n:=by unfold Dn; rw [List.length_map,List.length_range]
theorem YW (A B:List (List V2)) (e:Rat) (n:Nat):Dn A B e (n+1)=Dn A B e n ++ [mc A B e n]:=by unfold Dn; rw [List.range_succ,List.map_append]; rfl
theorem md (A B:List (List V2)) (e:Rat) (i k:Nat) (hk:k<B.length):mc A B e (i*B.length+k)=(A0 (A.getD i []) (B.getD k []) e).1:=by
 unfold mc
 rw [show i*B.length+k=k+B.length*i by rw [Nat.mul_comm,Nat.add_comm],Nat.add_mul_div_left _ _ (by omega),Nat.add_mul_mod_self_left,Nat.div_eq_of_lt hk,Nat.mod_eq_of_lt hk,Nat.zero_add]
def GD (e:Rat) (W:List V2):List AO:=[.row 0 4 (Xq (qC e)),.row 0 1 (Xq [.sl 0 0 (fun _=>.any) true]),.row 0 1 (Xq [.bool false]),.row 0 1 (Xq [.osl 4 W.length 8 0 W.length]),.row W.length (W.length*8) (Xw vC 8 v0 W)]
theorem IG (e:Rat) (W:List V2):GD e W=[.row 0 4 (Xq (qC e)),.row 0 1 (Xq [.sl 0 0 (fun _=>.any) true]),.row 0 1 (Xq [.bool false]),.row 0 1 (Xq [.osl 4 W.length 8 0 W.length]),.row W.length (W.length*8) (Xw vC 8 v0 W)]:=nrfl rfl
theorem Of (e:Rat) (W:List V2):P8 5 (GD e W):=by
 have hvc:∀ a:V2,∀ x∈vC a,Settled x:=fun a=>by simp [vC,X7,X3]
 refine ⟨rfl,fun o ho=>?_⟩
 simp only [GD,List.mem_cons,List.not_mem_nil,or_false] at ho
 rcases ho with rfl | rfl | rfl | rfl | rfl
 ·exact ⟨by simp [qC,Xy],by simp,by simp⟩
 ·exact ⟨by simp [Xy],by simp,by simp⟩
 ·exact ⟨by simp [Xy],by simp,by simp⟩
 ·exact ⟨by simp [Xy],by simp,by simp⟩
 ·exact ⟨fun j _=>X6 (Xd (hvc _) _),by simp,by simp⟩
theorem pj {p:Nat→Prop}:∀ n,p n→∃ n,p n∧∀ m,m<n→¬ p m:=by
 intro n
 induction n using Nat.strongRecOn with
 | ind n ih =>
  intro h
  by_cases hm:∃ m,m<n∧p m
  ·obtain ⟨m,h1,h2⟩:=hm
   exact ih m h1 h2
  ·exact ⟨n,h,fun m hm' hp=>hm ⟨m,hm',hp⟩⟩
def Yd (e:Rat) (W:List V2):List AO:=[.row 0 4 (Xq (qC e)),.row 0 1 (Xq [.sl 0 0 (fun _=>.any) false]),.row 0 1 (Xq [.bool false]),.row 0 1 (Xq [.osl 4 W.length 8 0 W.length]),.row W.length (W.length*8) (Xw vC 8 v0 W)]
theorem Pn (e:Rat) (W:List V2):Yd e W=[.row 0 4 (Xq (qC e)),.row 0 1 (Xq [.sl 0 0 (fun _=>.any) false]),.row 0 1 (Xq [.bool false]),.row 0 1 (Xq [.osl 4 W.length 8 0 W.length]),.row W.length (W.length*8) (Xw vC 8 v0 W)]:=nrfl rfl
theorem Vj (e:Rat) (W:List V2):P8 5 (Yd e W):=by
 have hvc:∀ a:V2,∀ x∈vC a,Settled x:=fun a=>by simp [vC,X7,X3]
 refine ⟨rfl,fun o ho=>?_⟩
 simp only [Yd,List.mem_cons,List.not_mem_nil,or_false] at ho
 rcases ho with rfl | rfl | rfl | rfl | rfl
 ·exact ⟨by simp [qC,Xy],by simp,by simp⟩
 ·exact ⟨by simp [Xy],by simp,by simp⟩
 ·exact ⟨by simp [Xy],by simp,by simp⟩
 ·exact ⟨by simp [Xy],by simp,by simp⟩
 ·exact ⟨fun j _=>X6 (Xd (hvc _) _),by simp,by simp⟩
theorem Tz {A B:List (List V2)} {e:Rat} (h:Mz A B e=false):∃ i k,i<A.length∧k<B.length∧ZB A B e i k=false∧∀ j l,(j<i∨j=i∧l<k)→l<B.length→ZB A B e j l=true:=by
 have h1:¬ ∀ i,i<A.length→MA A B e i=true:=fun H=>by
  have:Mz A B e=true:=decide_eq_true H
  rw [h] at this; cases this
 have h2:∃ i,i<A.length∧MA A B e i=false:=by
  apply Classical.byContradiction
  intro H
  refine h1 fun i hi=>?_
  cases hp:MA A B e i with
  | true=>rfl
  | false=>exact absurd ⟨i,hi,hp⟩ H
 obtain ⟨i',hi'⟩:=h2
 obtain ⟨i,⟨hi,hp⟩,hmin⟩:=pj (p:=fun i=>i<A.length∧MA A B e i=false) i' hi'
 have h4:∃ k,k<B.length∧ZB A B e i k=false:=by
  apply Classical.byContradiction
  intro H
  have:MA A B e i=true:=decide_eq_true fun k hk=>by
   cases hq:ZB A B e i k with
   | true=>rfl
   | false=>exact absurd ⟨k,hk,hq⟩ H
  rw [hp] at this; cases this
 obtain ⟨k',hk'⟩:=h4
 obtain ⟨k,⟨hk,hq⟩,hmin2⟩:=pj (p:=fun k=>k<B.length∧ZB A B e i k=false) k' hk'
 refine ⟨i,k,hi,hk,hq,fun j l hjl hl=>?_⟩
 cases hv:ZB A B e j l with
 | true=>rfl
 | false =>
  rcases hjl with hj | ⟨rfl,hlk⟩
  ·exact absurd ⟨by omega,Vi hl hv⟩ (hmin j hj)
  ·exact absurd ⟨hl,hv⟩ (hmin2 l hlk)
theorem kJ (A B:List (List V2)) (e:Rat) (c:Nat) (ha:∀ i,i<A.length→Shp c (A.getD i [])) (hb:∀ i,i<B.length→Shp c (B.getD i [])) (h1:1≤c) (hc:c≤1000) (he:qb e≤10000) (la:A.length≤1000) (lb:B.length≤1000) :
  Fn Tryz.prog 201 [GA A,GA B,qA e] (.tup [.any,.bool (Mz A B e)]):=by
 have cp:=iB A B
 obtain ⟨R,hR⟩:∃ R,R=Mz A B e:=⟨_,rfl⟩
 rw [← hR]
 have s15:Settled (.fn 260 [Zw A,Zw B]):=Jg (by
  intro a ha
  simp only [List.mem_cons,List.not_mem_nil,or_false] at ha
  rcases ha with rfl | rfl <;> exact Gj _)
 refine Fq Tryz.call201 Tryz.func201 13 [16,17] [] [] (by simp [K5,Xc]) (X0 1000 ?_)
 simp only [AS.start,XC,↓X2,wA,seval,wE]
 refine X1 cp rfl ?_
 simp only [XC,↓X2,wA,seval,wE]
 refine Run.sub (s':=⟨13,[16,17],[.any,.any,.any,.any,.any,.ref 0 0 0,.ref 1 0 0,.ref 2 0 0,.ref 3 0 0,.any,.any,.any,.any],[(15,.fn 260 [Zw A,Zw B])],GD e []⟩) ?_ ((QA 3 1 (fun _=>.sl 0 0 (fun _=>.any) true) rfl (Nat.le_refl _) (fun j hj=>by have e:j=0:=Nat.lt_one_iff.1 hj; subst e; rfl)).trans ((Ay 3 8 (Xw vC 8 v0 []) rfl 1 (Nat.le_refl _)).trans ((QA 3 1 (Xq [.osl 4 0 8 0 0]) rfl (Nat.le_refl _) (fun j hj=>by have e:j=0:=Nat.lt_one_iff.1 hj; subst e; rfl)).trans (Xa rfl (by simp [Xh]) (by simp [Xi,Xv]) (by simp [GD,qC,X4])))))
 have hb1:∀ i k,i<A.length→k<B.length→i*B.length+k<1000*1000:=fun i k hi hk=>by
  have h2:i*B.length+B.length≤A.length*B.length:=by rw [← Nat.succ_mul]; exact Nat.mul_le_mul_right _ hi
  have h3:A.length*B.length≤1000*1000:=Nat.mul_le_mul la lb
  omega
 have hN:∃ N,(R=true∧N=A.length*B.length∧∀ i k,i<A.length→k<B.length→ZB A B e i k=true)∨(R=false∧∃ i0 k0,N=i0*B.length+k0∧i0<A.length∧k0<B.length∧ZB A B e i0 k0=false∧∀ j l,(j<i0∨j=i0∧l<k0)→l<B.length→ZB A B e j l=true):=by
  cases hq:Mz A B e with
  | true =>
   have h2:=of_decide_eq_true hq
   exact ⟨_,.inl ⟨hR.trans hq,rfl,fun i k hi hk=>of_decide_eq_true (h2 i hi) k hk⟩⟩
  | false =>
   obtain ⟨i0,k0,g1,g2,g3,g4⟩:=Tz hq
   exact ⟨_,.inr ⟨hR.trans hq,i0,k0,rfl,g1,g2,g3,g4⟩⟩
 obtain ⟨N,hN⟩:=hN
 refine DP R (gf:=260) (caps:=[Zw A,Zw B]) (Hn:=cond R (GD e (Dn A B e N)) (Yd e (Dn A B e N))) rfl rfl rfl (fun t ht=>?_) ?_
 ·have yT:∀ i k,i<A.length→k<B.length→ZB A B e i k=true→YCall Tryz.prog t [Xt (A.getD i []),Xt (B.getD k [])] (GD e (Dn A B e (i*B.length+k))) (.bool true) (GD e (Dn A B e (i*B.length+k+1))):=fun i k hi hk hp=>by
   have cf:=Ph (A.getD i []) (B.getD k []) e c (ha i hi) (hb k hk) h1 hc he
   rw [show (A0 (A.getD i []) (B.getD k []) e).2=true from hp] at cf
   have hd:=md A B e i k hk
   have hlt:=hb1 i k hi hk
   have hs:=YW A B e (i*B.length+k)
   have hl:=fA A B e (i*B.length+k)
   rw [hs,hd]
   generalize Dn A B e (i*B.length+k)=W at *
   generalize (A0 (A.getD i []) (B.getD k []) e).1=d at *
   have hap:=Q0 vC 8 v0 W d (by omega)
   refine E5 (str:=[]) (hcs:=[]) ht mixed (by kernel_rfl) (by kernel_rfl) rfl (fun p hp=>?_) (fun o ho=>((Of e _).2 o ho).1) (fun l r hr=>?_)
   ·have hp':p=16∨p=17:=by simpa using hp
    rcases hp' with rfl | rfl <;> exact Nat.le_of_ble_eq_true rfl
   show Run _ _ ⟨13,[16,17],[.any,.any,.any,.any,.any,.ref 0 0 0,.ref 1 0 0,.ref 2 0 0,.ref 3 0 0,.any,.any,.any,.any],[(17,Xt (B.getD k [])),(16,Xt (A.getD i [])),(15,.fn 260 [Zw A,Zw B])],GD e W⟩
   refine X0 1000 ?_
   simp only [IG,↓X2,wA,seval,wE]
   refine F4 hr ?_
   refine X0 1000 ?_
   simp only [↓X2,wA,seval,wE]
   refine X1 cf rfl ?_
   simp only [↓X2,wA,seval,wE]
   refine ⟨⟨BQ _,by omega,by omega⟩,nP ?_⟩
   rw [List.length_append,List.length_singleton,← hap]
   rfl
  have hce:t.ce.H.length≤5:=by rw [ht.ch]; exact Nat.le_refl _
  rcases hN with ⟨rfl,rfl,hall⟩ | ⟨rfl,i0,k0,rfl,hi0,hk0,hno,hyes⟩
  ·exact UD A B t 5 (fun n=>GD e (Dn A B e n)) la lb (fun n=>Of _ _) hce fun i k hi hk=>yT i k hi hk (hall i k hi hk)
  ·refine aM A B t 5 (fun n=>GD e (Dn A B e n)) (Yd e (Dn A B e (i0*B.length+k0))) la lb (fun n=>Of _ _) hce i0 k0 hi0 hk0 (fun i k h hk=>yT i k (by omega) hk (hyes i k h hk)) ?_ (Vj _ _)
   have cf:=Ph (A.getD i0 []) (B.getD k0 []) e c (ha i0 hi0) (hb k0 hk0) h1 hc he
   rw [show (A0 (A.getD i0 []) (B.getD k0 []) e).2=false from hno] at cf
   generalize Dn A B e (i0*B.length+k0)=W at *
   generalize (A0 (A.getD i0 []) (B.getD k0 []) e).1=d at *
   refine Mo false (str:=[]) (hcs:=[]) ht mixed (by kernel_rfl) (by kernel_rfl) rfl (fun p hp=>?_) (fun o ho=>((Vj e _).2 o ho).1) (fun l r hr=>?_)
   ·have hp':p=16∨p=17:=by simpa using hp
    rcases hp' with rfl | rfl <;> exact Nat.le_of_ble_eq_true rfl
   show Run (Ue _ _ _ _ _ _ _ _) _ ⟨13,[16,17],[.any,.any,.any,.any,.any,.ref 0 0 0,.ref 1 0 0,.ref 2 0 0,.ref 3 0 0,.any,.any,.any,.any],[(17,Xt (B.getD k0 [])),(16,Xt (A.getD i0 [])),(15,.fn 260 [Zw A,Zw B])],GD e W⟩
   refine X0 1000 ?_
   simp only [IG,Pn,↓X2,wA,seval,wE]
   refine Uf hr ?_
   refine X0 1000 ?_
   simp only [↓X2,wA,seval,wE]
   refine X1 cf rfl ?_
   simp only [↓X2,wA,seval,wE]
   exact uU rfl
 ·rcases hN with ⟨rfl,rfl,hall⟩ | ⟨rfl,i0,k0,rfl,hi0,hk0,hno,hyes⟩
  ·show Run _ _ ⟨13,[16,17],[.any,.any,.any,.any,.any,.ref 0 0 0,.ref 1 0 0,.ref 2 0 0,.ref 3 0 0,.any,.any,.any,.any],[(15,.fn 260 [Zw A,Zw B])],GD e (Dn A B e (A.length*B.length))⟩
   generalize Dn A B e (A.length*B.length)=W
   show Run _ (_ :: _) _
   refine X0 1000 ?_
   simp only [IG,↓X2,wA,seval,wE]
   exact QJ (x:=.osl 4 W.length 8 0 W.length) (y:=.bool true) rfl (by simp only [Qp,↓X2,wA,seval,wE]) (by simp only [Qp,↓X2,wA,seval,wE]) (Xr ZM (Gv _)) ((X3 _).sees _)
  ·show Run _ _ ⟨13,[16,17],[.any,.any,.any,.any,.any,.ref 0 0 0,.ref 1 0 0,.ref 2 0 0,.ref 3 0 0,.any,.any,.any,.any],[(15,.fn 260 [Zw A,Zw B])],Yd e (Dn A B e (i0*B.length+k0))⟩
   generalize Dn A B e (i0*B.length+k0)=W
   show Run _ (_ :: _) _
   refine X0 1000 ?_
   simp only [Pn,↓X2,wA,seval,wE]
   exact QJ (x:=.sl 0 0 (fun _=>.any) false) (y:=.bool false) rfl (by simp only [Qp,↓X2,wA,seval,wE]) (by simp only [Qp,↓X2,wA,seval,wE]) (Xr ZM (Gv _)) ((X3 _).sees _)
def vg:Go.Shelf.Ren:=⟨fun _=>290,fun t=>if t=23 then 3 else t,fun x=>x⟩
theorem tT:SlLaysE.n45 Tryz.prog vg where
 mixed:=mixed
 f45:=⟨Tryz.f290.name,rfl,Tryz.func290.trans (congrArg some rfl)⟩
 t0:=Tryz.underlying0
 a0:=Tryz.isAgg0
 z0:=Tryz.sizeOf0
 v0:=Tryz.zeroValue0
 t3:=Tryz.underlying3
 a3:=Tryz.isAgg3
 z3:=Tryz.sizeOf3
 v3:=Tryz.zeroValue3
 t4:=Tryz.underlying4
 a4:=Tryz.isAgg4
 z4:=Tryz.sizeOf4
 v4:=Tryz.zeroValue4
 t22:=Tryz.underlying22
 a22:=Tryz.isAgg22
 z22:=Tryz.sizeOf22
 v22:=Tryz.zeroValue22
 a23:=Tryz.isAgg3
 z23:=Tryz.sizeOf3
def MK (x:Int):Value:=.int .i64 x
theorem Rr (w:World) (b:Nat) (d:Array Int) (cs:Array Value) (el:TypeId) (fr:Nat×Nat) (h:w.heap[b]?=some (.cells cs el fr)):(Go.Sort.putRow MK w b 0 d).heap[b]?=some (.cells (Go.Sort.putCells MK 0 d cs) el fr):=by
 show (w.heap.modify b _)[b]?=_
 rw [Array.getElem?_modify,if_pos rfl,h]
 rfl
theorem FJ (w:World) (b b':Nat) (d:Array Int) (h:b'≠b):(Go.Sort.putRow MK w b 0 d).heap[b']?=w.heap[b']?:=by
 show (w.heap.modify b _)[b']?=_
 rw [Array.getElem?_modify,if_neg (Ne.symm h)]
theorem N5 (o:AO) (R:List Int) (v i:Nat) (hi:i<R.length):HCall Tryz.prog 290 [.osl 1 v 1 0 R.length,I i,I ((i+1:Nat):Int)] [o,.row v R.length (Q4 I 0 R)] (.osl 1 (v+1) 1 0 (R.length - 1)) [o,.row (v+1) (R.length - 1) (Q4 I 0 (R.eraseIdx i))]:=by
 refine ⟨Tryz.call290,?_⟩
 rintro c vs hH hr ⟨hv1,hv2⟩
 have ho:c.H[1]?=some (.row v R.length (Q4 I 0 R)):=by rw [hH]; rfl
 have hinf:inf c.H 1=some v:=by simp [inf,ho,AO.info]
 have live:¬ stale c.H 1 v:=by
  rintro (⟨v'',h1,hlt⟩ | hd)
  ·rw [hinf] at h1; cases h1; omega
  ·simp [inf,hd,AO.info] at hinf
 obtain ⟨l,hl⟩:∃ l,vs=l:=⟨_,rfl⟩
 have hx:=hv2 0 (by simp)
 have hy:=hv2 1 (by simp)
 have hz:=hv2 2 (by simp)
 have e3:vs=#[vs.getD 0 undef,vs.getD 1 undef,vs.getD 2 undef]:=by
  have h3:vs.size=3:=hv1
  apply Array.ext
  ·simp [h3]
  ·intro j h1 h2
   match j,h1 with
   | 0,_=>simp [Array.getD,h3]
   | 1,_=>simp [Array.getD,h3]
   | 2,_=>simp [Array.getD,h3]
   | j+3,h=>omega
 rw [e3]
 generalize vs.getD 0 undef=x at *
 generalize vs.getD 1 undef=y at *
 generalize vs.getD 2 undef=z at *
 replace hx:Rep c x (.osl 1 v 1 0 R.length):=hx
 replace hy:Rep c y (I i):=hy
 replace hz:Rep c z (I ((i+1:Nat):Int)):=hz
 cases hy
 cases hz
 generalize hn:R.length=n at hx
 cases hx with
 | oslz _ _ _ _ a h=>omega
 | oslOld _ _ _ _ _ a cap h hs=>exact absurd hs live
 | oslzOld _ _ _ _ a hs=>exact absurd hs live
 | osl _ _ _ _ _ cap b sz h1 hg hcn hcap hmx =>
  subst hn
  rcases hr.row 1 _ _ _ ho with ⟨hg',_⟩ | ⟨b',sz',cs,el,hg',hh,hcs,hks,hnS,hcr⟩
  ·rw [hg'] at hg; cases hg
  rw [hg'] at hg
  cases hg
  have hcell:∀ j,j<R.length→cs.getD j undef=MK (R.getD j 0):=fun j hj=>by
   have:=hcr j hj
   rw [show Q4 I 0 R j=I (R.getD j 0) from rfl] at this
   generalize cs.getD j undef=q at this ⊢
   cases this; rfl
  have hget:∀ j,j<R.length→R.toArray[j]! = R.getD j 0:=fun j hj=>by
   rw [getElem!_pos R.toArray j (by simpa using hj)]
   simp [List.getD_eq_getElem?_getD,hj]
  have hold:Go.Sort.Holds MK c.w b 0 R.toArray:=fun j hj=>by
   have hj':j<R.length:=by simpa using hj
   refine ⟨?_,?_⟩
   ·rw [ZX hh (m:=R.length) (by omega) j hj',hcell j hj',hget j hj']
   ·unfold World.frozen?
    rw [hh]
    simp
  obtain ⟨_,i0,z0,hi0,hz1,_⟩:=Zl pg
  have key:=AnyE.slices_Delete tT MK (fun _=>rfl) 0 (fun w=>Tryz.zeroValue3 w) i0 hi0 hz1 b 0 cap i (i+1) R.toArray c.w hold (by simpa using hcn) hmx (by omega) (by rw [List.size_toArray]; omega)
  rw [List.size_toArray] at key
  refine key.mono ?_
  rintro e w' ⟨rfl,q,rfl⟩
  obtain ⟨d,hd⟩:∃ d,d=(R.toArray.toList.take i ++ R.toArray.toList.drop (i+1) ++ List.replicate (i+1 - i) (0:Int)).toArray:=⟨_,rfl⟩
  rw [← hd]
  have hds:d.size=R.length:=by rw [hd]; simp; omega
  have hdj:∀ j,j<R.length - 1→d[j]! = (R.eraseIdx i).getD j 0:=fun j hj=>by
   rw [getElem!_pos d j (by omega)]
   subst hd
   simp only [List.getElem_toArray,List.getD_eq_getElem?_getD,List.getElem?_eraseIdx]
   by_cases h:j<i
   ·rw [List.getElem_append_left (by simp; omega),List.getElem_append_left (by simp; omega)]
    simp [h,show j<R.length by omega]
   ·rw [List.getElem_append_left (by simp; omega),List.getElem_append_right (by simp; omega)]
    have e1:i+1+(j - min i R.length)=j+1:=by omega
    simp [h,e1,show j+1<R.length by omega]
  have hcs2:(Go.Sort.putCells MK 0 d cs).size=cs.size:=by simp [Go.Sort.putCells]
  have hset:(c.H.set 1 (.row (v+1) (R.length - 1) (Q4 I 0 (R.eraseIdx i))))[1]?=some (.row (v+1) (R.length - 1) (Q4 I 0 (R.eraseIdx i))):=by rw [hH]; rfl
  have hoth:∀ k,k≠1→(c.H.set 1 (.row (v+1) (R.length - 1) (Q4 I 0 (R.eraseIdx i))))[k]?=c.H[k]?:=fun k hk=>by simp [Ne.symm hk]
  have hinf':inf (c.H.set 1 (.row (v+1) (R.length - 1) (Q4 I 0 (R.eraseIdx i)))) 1=some (v+1):=by simp [inf,hset,AO.info]
  obtain ⟨g1,g2⟩:=Aa (c:=c) (c':=⟨Go.Sort.putRow MK (Go.Sort.ahead c.w q) b 0 d,c.S,c.γ,c.H.set 1 (.row (v+1) (R.length - 1) (Q4 I 0 (R.eraseIdx i)))⟩) hr
   (id:=1) (ver:=v+1) (n:=R.length - 1) (b:=b) (sz:=sz) hset hoth rfl hg' (fun _ _=>rfl) (Rr (Go.Sort.ahead c.w q) b d cs el (0,0) hh) (hcs2.trans hcs) (by omega)
   (fun b' hb' _=>FJ (Go.Sort.ahead c.w q) b b' d hb') (by simp) rfl rfl rfl (.inr ⟨_,_,ho,rfl,hg'⟩) (.inr (.inr ⟨v,hinf,.inl (by omega)⟩)) (fun j hj=>by
    have e1:(Go.Sort.putCells MK 0 d cs).getD j undef=MK d[j]!:=by
     have h1:j<cs.size:=by omega
     have h2:j<d.size:=by omega
     simp [Go.Sort.putCells,Array.getD_eq_getD_getElem?,h1,h2]
    rw [e1,hdj j hj]
    exact .int _ _)
  rw [hH] at hinf' g1 g2
  rw [show R.length - (i+1 - i)=R.length - 1 by omega]
  exact ⟨_,_,_,rfl,.osl 1 (v+1) 1 0 (R.length - 1) cap b sz hinf' hg' (by omega) hcap hmx,g1,g2⟩
def zs (R:List Nat):List Int:=R.map fun n:Nat=>(n:Int)
theorem Xl (R:List Nat):(zs R).length=R.length:=by unfold zs; rw [List.length_map]
theorem Bc (R:List Nat) (j:Nat):(zs R).getD j 0=((R.getD j 0:Nat):Int):=by
 unfold zs
 rw [List.getD_eq_getElem?_getD,List.getElem?_map,List.getD_eq_getElem?_getD]
 cases R[j]? <;> rfl
theorem Tc (R:List Nat) (i:Nat):(zs R).eraseIdx i=zs (R.eraseIdx i):=by
 unfold zs
 apply List.ext_getElem?
 intro j
 simp only [List.getElem?_eraseIdx,List.getElem?_map]
 split <;> rfl
def kg (L:List V2) (R:List Nat):AV:=.ptr 2 (Xq [Xt L,X9 (zs R)]) 0
theorem XY (L:List V2) (R:List Nat):kg L R=.ptr 2 (Xq [Xt L,X9 (zs R)]) 0:=nrfl rfl
theorem AZ (L:List V2) (R:List Nat):Settled (kg L R):=QV fun j hj=>by
 match j,hj with
 | 0,_=>exact Xf L
 | 1,_=>exact X7 _
 | j+2,h=>omega
def s8 (L:List V2) (R:List Nat):AV:=.ptr 1 (Xq [kg L R]) 0
theorem OS (L:List V2) (R:List Nat):s8 L R=.ptr 1 (Xq [kg L R]) 0:=nrfl rfl
theorem DQ (L:List V2) (R:List Nat):Settled (s8 L R):=QV fun j hj=>by
 obtain rfl:j=0:=by omega
 exact AZ L R
def nr (R:List Nat) (m:Nat):Nat:=R.getD (m % R.length) 0
theorem pJ (R:List Nat) (m:Nat):(zs R).getD (m % R.length) 0=((nr R m:Nat):Int):=Bc R _
structure Rok (L:List V2) (R:List Nat):Prop where
 pos:0<R.length
 len:R.length<1000000
 mem:∀ j,R.getD j 0<L.length
 lenL:L.length<1000000
theorem IP (L:List V2) (R:List Nat) (k:Int) (m:Nat) (h:Rok L R) (hk:k+R.length=m) (hm:m<10000000) (h1:-10≤k) (h2:k<10000000):Fn Tryz.prog 295 [I k,s8 L R] (I (nr R m)):=by
 obtain ⟨h0,hn,hmem,hL⟩:=h
 refine Fq Tryz.call295 Tryz.func295 4 [] [] [] (by simp [DQ,X8]) (X0 1000 ?_)
 have w1:IntKind.i64.wrap (k+R.length)=(m:Int):=by rw [IntKind.wrap_i64]; omega
 have hmod:(m:Int).tmod R.length=((m % R.length:Nat):Int):=rfl
 have hlt:m % R.length<R.length:=Nat.mod_lt _ h0
 have f1:(((m % R.length:Nat):Int)<R.length)=True:=eq_true (by omega)
 have f2:(m % R.length<R.length)=True:=eq_true hlt
 have f3:(m % R.length+1≤R.length)=True:=eq_true (by omega)
 have f6:((R.length:Int)=0)=False:=eq_false (by omega)
 have f6':(R.length=0)=False:=eq_false (by omega)
 have w2:IntKind.i64.wrap (((m % R.length:Nat):Int))=((m % R.length:Nat):Int):=by rw [IntKind.wrap_i64]; omega
 have v1:=pJ R m
 simp only [AS.start,OS,XY,X4,Xl,w1,w2,hmod,f1,f2,f3,f6,f6',v1,Int.toNat_natCast,↓X2,wA,seval,wE]
 exact Xs rfl rfl (X8 _) rfl
theorem GG (L:List V2) (R:List Nat) (p:Nat) (h:Rok L R) (hp:p<1000000):Fn Tryz.prog 289 [kg L R,I p] (.tup [I (nr R (p+R.length - 1)),I (nr R (p+R.length+1))]):=by
 have c1:=IP L R ((p:Int) - 1) (p+R.length - 1) h (by have:=h.pos; omega) (by have:=h.len; omega) (by omega) (by omega)
 have c2:=IP L R ((p:Int)+1) (p+R.length+1) h (by omega) (by have:=h.len; omega) (by omega) (by omega)
 have w1:IntKind.i64.wrap ((p:Int) - 1)=(p:Int) - 1:=by rw [IntKind.wrap_i64]; omega
 have w2:IntKind.i64.wrap ((p:Int)+1)=(p:Int)+1:=by rw [IntKind.wrap_i64]; omega
 have hl:SeesL [.row 0 1 (Xq [.ptr 2 (Xq [Xt L,X9 (zs R)]) 0])] ([.ref 0 0 0]:List AV) [s8 L R]:=⟨KU (.inl rfl) (by omega) (fun j hj=>by
  obtain rfl:j=0:=by omega
  exact (AZ L R).sees _),trivial⟩
 refine Fq Tryz.call289 Tryz.func289 7 [] [] [] (by simp [AZ,X8]) (X0 1000 ?_)
 simp only [AS.start,XY,w1,w2,↓X2,wA,seval,wE]
 refine JI c1 rfl ⟨Qy (X8 _) rfl,hl⟩ (Cr _ _) ?_
 simp only [w1,w2,↓X2,wA,seval,wE]
 refine JI c2 rfl ⟨Qy (X8 _) rfl,hl⟩ (Cr _ _) ?_
 simp only [w1,w2,↓X2,wA,seval,wE]
 exact So rfl rfl rfl (X8 _) (X8 _) rfl rfl
def I5 (L:List V2) (R:List Nat) (p:Nat):Int:=Jj (L.getD (nr R (p+R.length - 1)) v0) (L.getD (R.getD p 0) v0) (L.getD (nr R (p+R.length+1)) v0)
theorem Wj (L:List V2) (R:List Nat) (p k:Nat) (h:Rok L R) (hp:p<R.length) (hs:XU L k) (hk:k≤10000):Fn Tryz.prog 288 [kg L R,I p] (I (I5 L R p)):=by
 have c1:=GG L R p h (by have:=h.len; omega)
 have c2:=Zq (L.getD (nr R (p+R.length - 1)) v0) (L.getD (R.getD p 0) v0) (L.getD (nr R (p+R.length+1)) v0) (by have:=hs (nr R (p+R.length - 1)); unfold vs; omega) (by have:=hs (R.getD p 0); unfold vs; omega) (by have:=hs (nr R (p+R.length+1)); unfold vs; omega)
 obtain ⟨h0,hn,hmem,hL⟩:=h
 have m1:=hmem ((p+R.length - 1) % R.length)
 have m2:=hmem ((p+R.length+1) % R.length)
 have m3:=hmem p
 change nr R (p+R.length - 1)<L.length at m1
 change nr R (p+R.length+1)<L.length at m2
 unfold I5
 generalize nr R (p+R.length - 1)=a at *
 generalize nr R (p+R.length+1)=c at *
 have v2:=Bc R p
 generalize R.getD p 0=b at *
 have f1:((p:Int)<R.length)=True:=eq_true (by omega)
 have f2:(p<R.length)=True:=eq_true hp
 have f3:(p+1≤R.length)=True:=eq_true (by omega)
 have a1:((a:Int)<L.length)=True:=eq_true (by omega)
 have a2:(a<L.length)=True:=eq_true m1
 have a3:(a*8+8≤L.length*8)=True:=eq_true (by omega)
 have b1:((b:Int)<L.length)=True:=eq_true (by omega)
 have b2:(b<L.length)=True:=eq_true m3
 have b3:(b*8+8≤L.length*8)=True:=eq_true (by omega)
 have e1:((c:Int)<L.length)=True:=eq_true (by omega)
 have e2:(c<L.length)=True:=eq_true m2
 have e3:(c*8+8≤L.length*8)=True:=eq_true (by omega)
 have va:=vF L a
 have vb:=vF L b
 have vc:=vF L c
 refine Fq Tryz.call288 Tryz.func288 7 [] [] [] (by simp [AZ,X8]) (X0 1000 ?_)
 simp only [AS.start,XY,X5,X4,↓X2,wA,seval,wE]
 refine X1 c1 rfl ?_
 simp only [XY,X5,X4,Xl,f1,f2,f3,a1,a2,a3,b1,b2,b3,e1,e2,e3,va,vb,vc,v2,Int.toNat_natCast,↓X2,wA,seval,wE]
 refine X1 c2 rfl ?_
 simp only [↓X2,wA,seval,wE]
 exact Xs rfl rfl (X8 _) rfl
theorem gM (s:List Int) (v:Int) (hl:s.length<1048576):Fn Tryz.prog 297 [X9 s,I v] (I (I2 (fun x=>decide (v=x)) s)):=by
 refine Fq Tryz.call297 Tryz.func297 6 [6,7,8] [] [] (by simp [X7,X8]) (X0 1000 ?_)
 simp only [AS.start,X4,↓X2,wA,seval,wE]
 refine Xe (fun j:Nat=>⟨6,[6,7,8],[X9 s,I v,.any,.any,.any,.any],[(6,X9 s),(7,I s.length),(8,I j)],[]⟩) (fun j=>j≤s.length∧∀ i,i<j→(fun x=>decide (v=x)) (s.getD i 0)=false) (fun j=>s.length - j) 0 ⟨by omega,by omega⟩
  (Xa rfl (by simp [Xh,X4,I]) (by simp [Xi,Xv,X4,I]) rfl) ?_
 rintro j ⟨hj,hno⟩ next
 have w1:=wj j (by omega)
 refine X0 1000 ?_
 simp only [X4,w1,↓X2,wA,seval,wE]
 refine ⟨fun h=>⟨h,h,?_⟩,fun h=>Xs (v:=I (-1)) rfl rfl (X8 _) ?_⟩
 ·refine ⟨fun ht=>Xs (v:=I j) rfl rfl (X8 _) ?_,fun hf=>next (j+1) _ ⟨by omega,fun i hi=>?_⟩ (by omega) (Xa rfl ?_ ?_ rfl)⟩
  ·rw [FK h (decide_eq_true ht) hno]
  ·by_cases e:i=j
   ·rw [e]; exact decide_eq_false hf
   ·exact hno i (by omega)
  ·simp [Xh,X4,I]
  ·simp [Xi,Xv,X4,I]
 ·rw [GU fun i hi=>hno i (by omega)]
def UE (R:List Nat) (x:Int):Nat:=(I2 (fun y=>decide (x=y)) (zs R)).toNat
theorem OH {R:List Nat} (hd:R.Nodup) {p:Nat} (hp:p<R.length):I2 (fun y=>decide (((R.getD p 0:Nat):Int)=y)) (zs R)=p:=by
 have at_:∀ i (hi:i<R.length),R.getD i 0=R[i]:=fun i hi=>by rw [List.getD_eq_getElem?_getD,List.getElem?_eq_getElem hi]; rfl
 refine FK (by rw [Xl]; exact hp) (by rw [Bc]; simp) fun i hi=>?_
 rw [Bc]
 refine decide_eq_false fun e=>?_
 rw [at_ i (by omega),at_ p hp] at e
 have e2:R[p]=R[i]:=by omega
 have:=(List.getElem_inj (i:=p) (j:=i) (h₀:=hp) (h₁:=by omega) hd).1 e2
 omega
theorem YK (L:List V2) (R:List Nat) (x:Int) (k:Nat) (h:Rok L R) (hd:R.Nodup) (hx:x∈zs R) (hs:XU L k) (hk:k≤10000):Fn Tryz.prog 296 [I x,s8 L R] (.bool (decide (I5 L R (UE R x)=0))):=by
 obtain ⟨p,hp,rfl⟩:∃ p,p<R.length∧((R.getD p 0:Nat):Int)=x:=by
  obtain ⟨i,hi,rfl⟩:=List.getElem_of_mem hx
  refine ⟨i,by rw [Xl] at hi; exact hi,?_⟩
  rw [← Bc,List.getD_eq_getElem?_getD,List.getElem?_eq_getElem hi]; rfl
 have c1:=gM (zs R) ((R.getD p 0:Nat):Int) (by rw [Xl]; have:=h.len; omega)
 have e:UE R ((R.getD p 0:Nat):Int)=p:=by unfold UE; rw [OH hd hp]; rfl
 rw [OH hd hp] at c1
 rw [e]
 have c2:=Wj L R p k h hp hs hk
 refine Fq Tryz.call296 Tryz.func296 4 [] [] [] (by simp [DQ,X8]) (X0 1000 ?_)
 simp only [AS.start,OS,XY,X4,Xl,↓X2,wA,seval,wE]
 refine X1 c1 (by simp only [X4,Xl]; rfl) ?_
 simp only [OS,XY,X4,Xl,↓X2,wA,seval,wE]
 refine X1 c2 (by simp only [XY,X4,Xl]; rfl) ?_
 simp only [↓X2,wA,seval,wE]
 exact Xs rfl rfl (X3 _) rfl
def KN (L:List V2) (R:List Nat):Nat:=(List.range R.length).findIdx fun p=>decide (I5 L R p=0)
theorem Li (L:List V2) (R:List Nat):KN L R≤R.length:=by
 have:=List.findIdx_le_length (xs:=List.range R.length) (p:=fun p=>decide (I5 L R p=0))
 rw [List.length_range] at this
 exact this
theorem Ng {L:List V2} {R:List Nat} (h:KN L R<R.length):I5 L R (KN L R)=0:=by
 have:=List.findIdx_getElem (xs:=List.range R.length) (p:=fun p=>decide (I5 L R p=0)) (w:=by rw [List.length_range]; exact h)
 rw [List.getElem_range] at this
 exact of_decide_eq_true this
theorem Lj {L:List V2} {R:List Nat} {p:Nat} (h:p<KN L R):I5 L R p≠0:=by
 have h2:=Li L R
 have:=List.not_of_lt_findIdx (xs:=List.range R.length) (p:=fun p=>decide (I5 L R p=0)) (i:=p) h
 rw [List.getElem_range] at this
 exact of_decide_eq_false this
def Zk (L:List V2):Nat→List Nat→List Nat
 | 0,R=>R
 | f+1,R=>if 3<R.length∧KN L R<R.length then Zk L f (R.eraseIdx (KN L R)) else R
theorem lV {L:List V2} {R:List Nat} (hd:R.Nodup):I2 (fun x=>decide (I5 L R (UE R x)=0)) (zs R)=if KN L R<R.length then ((KN L R:Nat):Int) else -1:=by
 have at_:∀ p,p<R.length→UE R ((zs R).getD p 0)=p:=fun p hp=>by unfold UE; rw [Bc,OH hd hp]; rfl
 split
 ·rename_i h
  refine FK (by rw [Xl]; exact h) ?_ fun i hi=>?_
  ·rw [at_ _ h]; exact decide_eq_true (Ng h)
  ·rw [at_ _ (by omega)]; exact decide_eq_false (Lj hi)
 ·rename_i h
  refine GU fun i hi=>?_
  rw [Xl] at hi
  have:=Li L R
  rw [at_ _ hi]; exact decide_eq_false (Lj (by omega))
def LX (L:List V2) (N:Nat) (R:List Nat):List AO:=[.row 0 2 (Xq [Xt L,.osl 1 (N - R.length) 1 0 R.length]),.row (N - R.length) R.length (Q4 I 0 (zs R))]
theorem J9 (L:List V2) (N:Nat) (R:List Nat):LX L N R=[.row 0 2 (Xq [Xt L,.osl 1 (N - R.length) 1 0 R.length]),.row (N - R.length) R.length (Q4 I 0 (zs R))]:=nrfl rfl
theorem Kw (L:List V2) (N:Nat) (R:List Nat):P8 2 (LX L N R):=by
 refine ⟨rfl,fun o ho=>?_⟩
 have bL:Jq 2 (Xt L)=True:=eq_true (X6 (Xf L))
 simp only [LX,List.mem_cons,List.not_mem_nil,or_false] at ho
 rcases ho with rfl | rfl
 ·exact ⟨by simp [Xy,bL],by simp,by simp⟩
 ·exact ⟨fun j _=>X6 (X8 _),by simp,by simp⟩
theorem Iw {L:List V2} {N:Nat} {R:List Nat} {rest:List AO}:JS (LX L N R ++ rest) (.ref 0 0 0) (kg L R):=KU (.inl rfl) (by omega) fun j hj=>by
 match j,hj with
 | 0,_=>exact (Xf L).sees _
 | 1,_ =>
  show JS _ (.osl 1 (N - R.length) 1 0 R.length) (X9 (zs R))
  have:=Es (l:=zs R) (H:=LX L N R ++ rest) (id:=1) (ver:=N - R.length) (n:=R.length) rfl (by rw [Xl]; exact Nat.le_refl _)
  rw [Xl] at this
  exact this
 | j+2,h=>omega
theorem Sz {L:List V2} {N:Nat} {R:List Nat} {rest:List AO}:JS (LX L N R ++ rest) (.osl 1 (N - R.length) 1 0 R.length) (X9 (zs R)):=by
 have:=Es (l:=zs R) (H:=LX L N R ++ rest) (id:=1) (ver:=N - R.length) (n:=R.length) rfl (by rw [Xl]; exact Nat.le_refl _)
 rw [Xl] at this
 exact this
theorem uc {P:Program} {fn:Func} {str hcs:List Nat} {m:Nat} {H:List AO} {s:AS} (hr:fn.results=#[]) (hH:s.h.take m=H):RetOk (I0 P fn str hcs m (.tup []) H) s :=
 ⟨.tup [],by show KT P fn s=_; simp [KT,hr,QZ,A3],rfl,hH⟩
theorem rX {P:Program} {fn:Func} {str hcs:List Nat} {m:Nat} {H:List AO} {s:AS} (hr:fn.results=#[]) (hH:s.h.take m=H):RetE (I0 P fn str hcs m (.tup []) H) s :=
 ⟨.tup [],by show KT P fn s=_; simp [KT,hr,QZ,A3],rfl,hH⟩
theorem Bo {L:List V2} {R:List Nat} {q:Nat} (h:Rok L R) (h3:3<R.length) (hq:q<R.length):Rok L (R.eraseIdx q):=by
 obtain ⟨h0,hn,hmem,hL⟩:=h
 have hlen:(R.eraseIdx q).length=R.length - 1:=by rw [List.length_eraseIdx,if_pos hq]
 refine ⟨by omega,by omega,fun j=>?_,hL⟩
 rw [List.getD_eq_getElem?_getD,List.getElem?_eraseIdx]
 split
 ·rw [← List.getD_eq_getElem?_getD]; exact hmem j
 ·rw [← List.getD_eq_getElem?_getD]; exact hmem (j+1)
theorem fg (L:List V2) (N:Nat) (R0:List Nat) (k:Nat) (h:Rok L R0) (hd:R0.Nodup) (hN:R0.length≤N) (hs:XU L k) (hk:k≤10000):HCall Tryz.prog 291 [.ref 0 0 0] (LX L N R0) (.tup []) (LX L N (Zk L R0.length R0)):=by
 have bL:Jq 3 (Xt L)=True:=eq_true (X6 (Xf L))
 refine HCall.introC (fn:=Tryz.f291) Tryz.call291 Tryz.func291 rfl mixed 3 [] [4,50000001,5004] [4] (by kernel_rfl) (Nat.le_of_ble_eq_true rfl) (X6 (SI (by simp))) (fun o ho=>((Kw _ _ _).2 o ho).1) (X0 1000 ?_)
 simp only [AS.start,J9,↓X2,wA,seval,wE]
 refine Xe (fun R:List Nat=>⟨3,[],[.any,.ref 2 0 0,.any],[],LX L N R ++ [.con 0 1 (Xq [.ref 0 0 0])]⟩) (fun R=>Rok L R∧R.Nodup∧R.length≤N∧Zk L R.length R=Zk L R0.length R0) (fun R=>R.length) R0 ⟨h,hd,hN,rfl⟩
  (Sub.trans (Qr 2 rfl) (Xa rfl (by simp [Xh]) (by simp [Xi]) (by simp [LX]))) ?_
 rintro R ⟨hR,hdR,hNR,hcl⟩ next
 have hR':=hR
 obtain ⟨h0,hn,hmem,hL⟩:=hR'
 by_cases h3:3<R.length
 rotate_left
 ·have e:Zk L R.length R=R:=by
   cases hl:R.length with
   | zero=>rfl
   | succ n=>unfold Zk; rw [if_neg (by omega)]
  rw [e] at hcl
  have f1:((3:Int)<R.length)=False:=eq_false (by omega)
  refine X0 1000 ?_
  simp only [J9,List.cons_append,List.nil_append,f1,↓X2,wA,seval,wE]
  rw [← hcl]
  exact rX rfl rfl
 have f1:((3:Int)<R.length)=True:=eq_true (by omega)
 have ci:=Nm (zs R) 296 [s8 L R] (fun x=>decide (I5 L R (UE R x)=0)) (by rw [Xl]; omega) (fun a ha=>by rw [List.mem_singleton.1 ha]; exact DQ L R) (fun x hx=>YK L R x k hR hdR hx hs hk)
 rw [lV hdR] at ci
 have sB:JS (LX L N R ++ [.con 0 1 (Xq [.ref 0 0 0])]) (.ref 2 0 0) (s8 L R):=KU (.inr rfl) (by omega) fun j hj=>by
  obtain rfl:j=0:=by omega
  exact Iw
 by_cases hq:KN L R<R.length
 rotate_left
 ·have e:Zk L R.length R=R:=by
   cases hl:R.length with
   | zero=>rfl
   | succ n=>unfold Zk; rw [if_neg (by omega)]
  rw [e] at hcl
  rw [if_neg hq] at ci
  refine X0 1000 ?_
  simp only [J9,List.cons_append,List.nil_append,f1,↓X2,wA,seval,wE]
  refine JI ci rfl ⟨Sz,C7 ⟨sB,trivial⟩,trivial⟩ (Cr _ _) ?_
  simp only [show ((-1:Int)<0)=True from eq_true (by omega),↓X2,wA,seval,wE]
  rw [← hcl]
  exact uc rfl rfl
 rw [if_pos hq] at ci
 have hlq:∀ q,q<R.length→(R.eraseIdx q).length=R.length - 1:=fun q hq=>by rw [List.length_eraseIdx,if_pos hq]
 have ecl:Zk L R.length R=Zk L (R.eraseIdx (KN L R)).length (R.eraseIdx (KN L R)):=by
  rw [hlq _ hq]
  cases hl:R.length with
  | zero=>omega
  | succ n =>
   show (if 3<R.length∧KN L R<R.length then Zk L n (R.eraseIdx (KN L R)) else R)=_
   rw [if_pos ⟨h3,hq⟩]; rfl
 rw [ecl] at hcl
 generalize KN L R=q at *
 have hl:=hlq q hq
 have f2:((q:Int)<0)=False:=eq_false (by omega)
 have w1:=wj q (by omega)
 have cd:=N5 (.row 0 2 (Xq [Xt L,.osl 1 (N - R.length) 1 0 R.length])) (zs R) (N - R.length) q (by rw [Xl]; exact hq)
 rw [Xl,Tc] at cd
 refine X0 1000 ?_
 simp only [J9,List.cons_append,List.nil_append,f1,↓X2,wA,seval,wE]
 refine JI ci rfl ⟨Sz,C7 ⟨sB,trivial⟩,trivial⟩ (Cr _ _) ?_
 simp only [w1,f2,↓X2,wA,seval,wE]
 have o2:∀ o∈[AO.row 0 2 (Xq [Xt L,.osl 1 (N - R.length) 1 0 R.length]),.row (N - R.length+1) (R.length - 1) (Q4 I 0 (zs (R.eraseIdx q)))],o≠.unborn∧∀ v n f,o≠.con v n f:=fun o ho=>by
  simp only [List.mem_cons,List.not_mem_nil,or_false] at ho
  rcases ho with rfl | rfl <;> exact ⟨by simp,by simp⟩
 have bA:∀ a∈[AV.osl 1 (N - R.length) 1 0 R.length,I q,I ((q+1:Nat):Int)],Jq 2 a:=fun a ha=>by
  simp only [List.mem_cons,List.not_mem_nil,or_false] at ha
  rcases ha with rfl | rfl | rfl
  ·exact Id (by omega)
  ·exact X6 (X8 _)
  ·exact X6 (X8 _)
 refine Al (H1:=LX L N R) (H1':=[AO.row 0 2 (Xq [Xt L,.osl 1 (N - R.length) 1 0 R.length]),.row (N - R.length+1) (R.length - 1) (Q4 I 0 (zs (R.eraseIdx q)))]) (rest:=[.con 0 1 (Xq [.ref 0 0 0])]) rfl cd rfl rfl bA (fun o ho=>((Kw L N R).2 o ho).1) (fun o ho=>((Kw L N R).2 o ho).2.1) (fun o ho=>(o2 o ho).1) (QP (fun o ho=>((Kw L N R).2 o ho).2.2) (fun o ho=>(o2 o ho).2)) (XS _) ?_
 simp only [List.cons_append,List.nil_append,↓X2,wA,seval,wE]
 exact next (R.eraseIdx q) _ ⟨Bo hR h3 hq,hdR.eraseIdx q,by omega,hcl⟩ (by omega) (Xa rfl (by simp [Xh]) (by simp [Xi]) (by rw [J9,hl,show N - (R.length - 1)=N - R.length+1 by omega]; rfl))
def kf (a b c p:V2):Prop:=0≤Jj a b p∧0≤Jj b c p∧0≤Jj c a p
def Bx (L:List V2) (a b c k:Nat):Prop:=k=a∨k=c∨k=b∨¬ kf (L.getD a v0) (L.getD b v0) (L.getD c v0) (L.getD k v0)
def BU (L:List V2) (R:List Nat) (p:Nat):Bool:=decide (0<I5 L R p∧∀ j,j<R.length→Bx L (nr R (p+R.length - 1)) (R.getD p 0) (nr R (p+R.length+1)) (R.getD j 0))
def I8 (A B C:V2):AV:=.sl 3 24 (Xq [.bool (decide (A.x.num<0)),X9 (Xb A.x.num.natAbs),.bool false,X9 (Xb (qd A.x)),.bool (decide (A.y.num<0)),X9 (Xb A.y.num.natAbs),.bool false,X9 (Xb (qd A.y)),.bool (decide (B.x.num<0)),X9 (Xb B.x.num.natAbs),.bool false,X9 (Xb (qd B.x)),.bool (decide (B.y.num<0)),X9 (Xb B.y.num.natAbs),.bool false,X9 (Xb (qd B.y)),.bool (decide (C.x.num<0)),X9 (Xb C.x.num.natAbs),.bool false,X9 (Xb (qd C.x)),.bool (decide (C.y.num<0)),X9 (Xb C.y.num.natAbs),.bool false,X9 (Xb (qd C.y))]) true
theorem XR (A B C:V2):I8 A B C=.sl 3 24 (Xq [.bool (decide (A.x.num<0)),X9 (Xb A.x.num.natAbs),.bool false,X9 (Xb (qd A.x)),.bool (decide (A.y.num<0)),X9 (Xb A.y.num.natAbs),.bool false,X9 (Xb (qd A.y)),.bool (decide (B.x.num<0)),X9 (Xb B.x.num.natAbs),.bool false,X9 (Xb (qd B.x)),.bool (decide (B.y.num<0)),X9 (Xb B.y.num.natAbs),.bool false,X9 (Xb (qd B.y)),.bool (decide (C.x.num<0)),X9 (Xb C.x.num.natAbs),.bool false,X9 (Xb (qd C.x)),.bool (decide (C.y.num<0)),X9 (Xb C.y.num.natAbs),.bool false,X9 (Xb (qd C.y))]) true:=nrfl rfl
theorem qU (L:List V2) (R:List Nat) (p k:Nat) (h:Rok L R) (hp:p<R.length) (hs:XU L k) (hk:k≤10000):Fn Tryz.prog 274 [kg L R,I p] (.bool (BU L R p)):=by
 have c1:=Wj L R p k h hp hs hk
 have c2:=GG L R p h (by have:=h.len; omega)
 obtain ⟨h0,hn,hmem,hL⟩:=h
 have m1:=hmem ((p+R.length - 1) % R.length)
 have m2:=hmem ((p+R.length+1) % R.length)
 have m3:=hmem p
 change nr R (p+R.length - 1)<L.length at m1
 change nr R (p+R.length+1)<L.length at m2
 have hear:BU L R p=decide (0<I5 L R p∧∀ j,j<R.length→Bx L (nr R (p+R.length - 1)) (R.getD p 0) (nr R (p+R.length+1)) (R.getD j 0)):=rfl
 generalize BU L R p=E at *
 generalize I5 L R p=S at *
 generalize nr R (p+R.length - 1)=a at *
 generalize nr R (p+R.length+1)=c at *
 have v2:=Bc R p
 generalize R.getD p 0=b at *
 have f1:((p:Int)<R.length)=True:=eq_true (by omega)
 have f2:(p<R.length)=True:=eq_true hp
 have f3:(p+1≤R.length)=True:=eq_true (by omega)
 have a1:((a:Int)<L.length)=True:=eq_true (by omega)
 have a2:(a<L.length)=True:=eq_true m1
 have a3:(a*8+8≤L.length*8)=True:=eq_true (by omega)
 have b1:((b:Int)<L.length)=True:=eq_true (by omega)
 have b2:(b<L.length)=True:=eq_true m3
 have b3:(b*8+8≤L.length*8)=True:=eq_true (by omega)
 have e1:((c:Int)<L.length)=True:=eq_true (by omega)
 have e2:(c<L.length)=True:=eq_true m2
 have e3:(c*8+8≤L.length*8)=True:=eq_true (by omega)
 have va:=vF L a
 have vb:=vF L b
 have vc:=vF L c
 refine Fq Tryz.call274 Tryz.func274 11 [52,53,54,77,78,79] [] [] (by simp [AZ,X8]) (X0 1000 ?_)
 simp only [AS.start,XY,X5,X4,↓X2,wA,↓reduceIte,reduceIte,reduceCtorEq,Y1,Y2,Y3,Y4,Y5,Y6,Y7,Y8,Y9,YA,wE]
 refine X1 c1 rfl ?_
 by_cases hS:S≤0
 ·have g1:(S≤0)=True:=eq_true hS
  have hE:E=false:=by rw [hear]; exact decide_eq_false fun hh=>by omega
  simp only [XY,X5,X4,g1,↓X2,wA,↓reduceIte,reduceIte,reduceCtorEq,Y1,Y2,Y3,Y4,Y5,Y6,Y7,Y8,Y9,YA,wE]
  exact Xs (v:=.bool false) rfl rfl (X3 _) (by rw [hE])
 have g1:(S≤0)=False:=eq_false hS
 simp only [XY,X5,X4,g1,↓X2,wA,↓reduceIte,reduceIte,reduceCtorEq,Y1,Y2,Y3,Y4,Y5,Y6,Y7,Y8,Y9,YA,wE]
 refine X1 c2 rfl ?_
 simp only [XY,X5,X4,Xl,f1,f2,f3,a1,a2,a3,b1,b2,b3,e1,e2,e3,va,vb,vc,v2,Int.toNat_natCast,↓X2,wA,↓reduceIte,reduceIte,reduceCtorEq,Y1,Y2,Y3,Y4,Y5,Y6,Y7,Y8,Y9,YA,wE]
 have sA:=hs a
 have sB:=hs b
 have sC:=hs c
 generalize hA:L.getD a v0=A at *
 generalize hB:L.getD b v0=B at *
 generalize hC:L.getD c v0=C at *
 have hfree:∀ q,Bx L a b c q=(q=a∨q=c∨q=b∨¬ kf A B C (L.getD q v0)):=fun q=>by unfold Bx; rw [hA,hB,hC]
 refine Xe (fun j:Nat=>⟨11,[52,53,54,77,78,79],[kg L R,I p,.any,.any,.any,I a,I c,I8 A B C,.any,.any,.any],[(52,X9 (zs R)),(53,I R.length),(54,I j)],[]⟩) (fun j=>j≤R.length∧∀ i,i<j→Bx L a b c (R.getD i 0)) (fun j=>R.length - j) 0 ⟨by omega,fun i hi=>absurd hi (Nat.not_lt_zero i)⟩
  (Xa rfl (by simp [Xh,XY,X5,X4,Xl,XR,I]) (by simp [Xi,Xv,X4,Xl,I]) rfl) ?_
 rintro j ⟨hj,hno⟩ next
 have w1:=wj j (by omega)
 by_cases hj2:j<R.length
 rotate_left
 ·obtain rfl:j=R.length:=by omega
  have hE:E=true:=by rw [hear]; exact decide_eq_true ⟨by omega,hno⟩
  refine X0 1000 ?_
  simp only [XY,X5,X4,Xl,XR,Int.lt_irrefl,Nat.lt_irrefl,↓X2,wA,↓reduceIte,reduceIte,reduceCtorEq,Y1,Y2,Y3,Y4,Y5,Y6,Y7,Y8,Y9,YA,wE]
  exact Xs (v:=.bool true) rfl rfl (X3 _) (by rw [hE])
 have k1:((j:Int)<R.length)=True:=eq_true (by omega)
 have k2:(j<R.length)=True:=eq_true hj2
 have k3:(j+1≤R.length)=True:=eq_true (by omega)
 have v3:=Bc R j
 have m4:=hmem j
 have nx:=next (j+1)
 have hgo:=fun hfr=>JJ.2 (show (∀ i,i<j→Bx L a b c (R.getD i 0))∧Bx L a b c (R.getD j 0) from ⟨hno,hfr⟩)
 have hstop:¬ Bx L a b c (R.getD j 0)→E=false:=fun hb=>by rw [hear]; exact decide_eq_false fun hh=>hb (hh.2 j hj2)
 rw [hfree] at hgo hstop
 generalize R.getD j 0=q at *
 have sQ:=hs q
 by_cases q1:q=a
 ·have g1:((q:Int)=(a:Int))=True:=eq_true (by omega)
  refine X0 1000 ?_
  simp only [XY,X5,X4,Xl,XR,w1,f1,f2,f3,v2,k1,k2,k3,v3,g1,Int.toNat_natCast,↓X2,wA,↓reduceIte,reduceIte,reduceCtorEq,Y1,Y2,Y3,Y4,Y5,Y6,Y7,Y8,Y9,YA,wE]
  exact nx _ ⟨by omega,hgo (.inl q1)⟩ (by omega) (Xa rfl (by simp [Xh,XY,X5,X4,Xl,XR,I]) (by simp [Xi,Xv,X4,Xl,I]) rfl)
 have g1':((q:Int)=(a:Int))=False:=eq_false (by omega)
 by_cases q2:q=c
 ·have g2:((q:Int)=(c:Int))=True:=eq_true (by omega)
  refine X0 1000 ?_
  simp only [XY,X5,X4,Xl,XR,w1,f1,f2,f3,v2,k1,k2,k3,v3,g1',g2,Int.toNat_natCast,↓X2,wA,↓reduceIte,reduceIte,reduceCtorEq,Y1,Y2,Y3,Y4,Y5,Y6,Y7,Y8,Y9,YA,wE]
  exact nx _ ⟨by omega,hgo (.inr (.inl q2))⟩ (by omega) (Xa rfl (by simp [Xh,XY,X5,X4,Xl,XR,I]) (by simp [Xi,Xv,X4,Xl,I]) rfl)
 have g2':((q:Int)=(c:Int))=False:=eq_false (by omega)
 by_cases q3:q=b
 ·have g3:((q:Int)=(b:Int))=True:=eq_true (by omega)
  refine X0 1000 ?_
  simp only [XY,X5,X4,Xl,XR,w1,f1,f2,f3,v2,k1,k2,k3,v3,g1',g2',g3,Int.toNat_natCast,↓X2,wA,↓reduceIte,reduceIte,reduceCtorEq,Y1,Y2,Y3,Y4,Y5,Y6,Y7,Y8,Y9,YA,wE]
  exact nx _ ⟨by omega,hgo (.inr (.inr (.inl q3)))⟩ (by omega) (Xa rfl (by simp [Xh,XY,X5,X4,Xl,XR,I]) (by simp [Xi,Xv,X4,Xl,I]) rfl)
 have g3':((q:Int)=(b:Int))=False:=eq_false (by omega)
 refine X0 1000 ?_
 simp only [XY,X5,X4,Xl,XR,w1,f1,f2,f3,v2,k1,k2,k3,v3,g1',g2',g3',Int.toNat_natCast,↓X2,wA,↓reduceIte,reduceIte,reduceCtorEq,Y1,Y2,Y3,Y4,Y5,Y6,Y7,Y8,Y9,YA,wE]
 have x1:((q:Int)<L.length)=True:=eq_true (by omega)
 have x2:(q<L.length)=True:=eq_true m4
 have x3:(q*8+8≤L.length*8)=True:=eq_true (by omega)
 have vq:=vF L q
 generalize hQ:L.getD q v0=Q at *
 have z0:((0:Int)<3)=True:=eq_true (by omega)
 have z1:((1:Int)<3)=True:=eq_true (by omega)
 have z2:((2:Int)<3)=True:=eq_true (by omega)
 have z3:((3:Int)<3)=False:=eq_false (by omega)
 have t1:IntKind.i64.wrap (0+1)=1:=rfl
 have t2:IntKind.i64.wrap (1+1)=2:=rfl
 have t3:IntKind.i64.wrap (2+1)=3:=rfl
 have r1:(1:Int).tmod 3=1:=rfl
 have r2:(2:Int).tmod 3=2:=rfl
 have r3:(3:Int).tmod 3=0:=rfl
 have c3:((3:Nat):Int)=3:=rfl
 have d0:Int.toNat 0=0:=rfl
 have d1:Int.toNat 1=1:=rfl
 have d2:Int.toNat 2=2:=rfl
 have c11:((1:Nat):Int)=1:=rfl
 have c22:((2:Nat):Int)=2:=rfl
 have n3:((3:Int)=0)=False:=eq_false (by omega)
 have p0:((0:Int)≤0)=True:=eq_true (by omega)
 have p1:((0:Int)≤1)=True:=eq_true (by omega)
 have p2:((0:Int)≤2)=True:=eq_true (by omega)
 have o1:IntKind.i64.wrap 1=1:=rfl
 have o2:IntKind.i64.wrap 2=2:=rfl
 have o3:IntKind.i64.wrap 0=0:=rfl
 refine Xe (fun i:Nat=>⟨11,[52,53,54,77,78,79],[kg L R,I p,.any,.any,.any,I a,I c,I8 A B C,.any,I q,.any],[(77,I8 A B C),(78,I 3),(79,I i),(52,X9 (zs R)),(53,I R.length),(54,I j)],[]⟩) (fun i=>i≤3∧((0<i→0≤Jj A B Q)∧(1<i→0≤Jj B C Q)∧(2<i→0≤Jj C A Q))) (fun i=>3 - i) 0 ⟨by omega,by omega,by omega,by omega⟩
  (Xa rfl (by simp [Xh,XY,X5,X4,Xl,XR,I]) (by simp [Xi,Xv,X4,Xl,XR,I]) rfl) ?_
 rintro i ⟨hi,hin⟩ next2
 rcases (show i=0∨i=1∨i=2∨i=3 by omega) with rfl | rfl | rfl | rfl
 ·have cs:=Zq A B Q (by unfold vs; omega) (by unfold vs; omega) (by unfold vs; omega)
  have n2:=next2 1
  refine X0 1000 ?_
  simp only [XY,X5,X4,Xl,XR,w1,z0,z1,z2,z3,t1,t2,t3,x1,x2,x3,o1,o2,o3,c3,d0,d1,d2,c11,c22,n3,p0,p1,p2,not_false_eq_true,true_and,r1,r2,r3,vq,Int.toNat_natCast,↓X2,wA,↓reduceIte,reduceIte,reduceCtorEq,Y1,Y2,Y3,Y4,Y5,Y6,Y7,Y8,Y9,YA,wE]
  refine X1 cs rfl ?_
  by_cases hneg:Jj A B Q<0
  ·simp only [eq_true hneg,XY,X5,X4,Xl,XR,w1,↓X2,wA,↓reduceIte,reduceIte,reduceCtorEq,Y1,Y2,Y3,Y4,Y5,Y6,Y7,Y8,Y9,YA,wE]
   exact nx _ ⟨by omega,hgo (.inr (.inr (.inr fun hh=>by unfold kf at hh; omega)))⟩ (by omega) (Xa rfl (by simp [Xh,XY,X5,X4,Xl,XR,I]) (by simp [Xi,Xv,X4,Xl,I]) rfl)
  ·simp only [eq_false hneg,XY,X5,X4,Xl,XR,w1,t1,t2,t3,↓X2,wA,↓reduceIte,reduceIte,reduceCtorEq,Y1,Y2,Y3,Y4,Y5,Y6,Y7,Y8,Y9,YA,wE]
   exact n2 _ ⟨by omega,by omega⟩ (by omega) (Xa rfl (by simp [Xh,XY,X5,X4,Xl,XR,I]) (by simp [Xi,Xv,X4,Xl,XR,I]) rfl)
 ·have cs:=Zq B C Q (by unfold vs; omega) (by unfold vs; omega) (by unfold vs; omega)
  have n2:=next2 2
  refine X0 1000 ?_
  simp only [XY,X5,X4,Xl,XR,w1,z0,z1,z2,z3,t1,t2,t3,x1,x2,x3,o1,o2,o3,c3,d0,d1,d2,c11,c22,n3,p0,p1,p2,not_false_eq_true,true_and,r1,r2,r3,vq,Int.toNat_natCast,↓X2,wA,↓reduceIte,reduceIte,reduceCtorEq,Y1,Y2,Y3,Y4,Y5,Y6,Y7,Y8,Y9,YA,wE]
  refine X1 cs rfl ?_
  by_cases hneg:Jj B C Q<0
  ·simp only [eq_true hneg,XY,X5,X4,Xl,XR,w1,↓X2,wA,↓reduceIte,reduceIte,reduceCtorEq,Y1,Y2,Y3,Y4,Y5,Y6,Y7,Y8,Y9,YA,wE]
   exact nx _ ⟨by omega,hgo (.inr (.inr (.inr fun hh=>by unfold kf at hh; omega)))⟩ (by omega) (Xa rfl (by simp [Xh,XY,X5,X4,Xl,XR,I]) (by simp [Xi,Xv,X4,Xl,I]) rfl)
  ·simp only [eq_false hneg,XY,X5,X4,Xl,XR,w1,t1,t2,t3,↓X2,wA,↓reduceIte,reduceIte,reduceCtorEq,Y1,Y2,Y3,Y4,Y5,Y6,Y7,Y8,Y9,YA,wE]
   exact n2 _ ⟨by omega,by omega⟩ (by omega) (Xa rfl (by simp [Xh,XY,X5,X4,Xl,XR,I]) (by simp [Xi,Xv,X4,Xl,XR,I]) rfl)
 ·have cs:=Zq C A Q (by unfold vs; omega) (by unfold vs; omega) (by unfold vs; omega)
  have n2:=next2 3
  refine X0 1000 ?_
  simp only [XY,X5,X4,Xl,XR,w1,z0,z1,z2,z3,t1,t2,t3,x1,x2,x3,o1,o2,o3,c3,d0,d1,d2,c11,c22,n3,p0,p1,p2,not_false_eq_true,true_and,r1,r2,r3,vq,Int.toNat_natCast,↓X2,wA,↓reduceIte,reduceIte,reduceCtorEq,Y1,Y2,Y3,Y4,Y5,Y6,Y7,Y8,Y9,YA,wE]
  refine X1 cs rfl ?_
  by_cases hneg:Jj C A Q<0
  ·simp only [eq_true hneg,XY,X5,X4,Xl,XR,w1,↓X2,wA,↓reduceIte,reduceIte,reduceCtorEq,Y1,Y2,Y3,Y4,Y5,Y6,Y7,Y8,Y9,YA,wE]
   exact nx _ ⟨by omega,hgo (.inr (.inr (.inr fun hh=>by unfold kf at hh; omega)))⟩ (by omega) (Xa rfl (by simp [Xh,XY,X5,X4,Xl,XR,I]) (by simp [Xi,Xv,X4,Xl,I]) rfl)
  ·simp only [eq_false hneg,XY,X5,X4,Xl,XR,w1,t1,t2,t3,↓X2,wA,↓reduceIte,reduceIte,reduceCtorEq,Y1,Y2,Y3,Y4,Y5,Y6,Y7,Y8,Y9,YA,wE]
   exact n2 _ ⟨by omega,by omega⟩ (by omega) (Xa rfl (by simp [Xh,XY,X5,X4,Xl,XR,I]) (by simp [Xi,Xv,X4,Xl,XR,I]) rfl)
 ·have hE:E=false:=hstop (by
   rintro (e | e | e | e)
   ·exact q1 e
   ·exact q2 e
   ·exact q3 e
   ·exact e ⟨hin.1 (by omega),hin.2.1 (by omega),hin.2.2 (by omega)⟩)
  refine X0 1000 ?_
  simp only [XY,X5,X4,Xl,XR,z3,c3,↓X2,wA,↓reduceIte,reduceIte,reduceCtorEq,Y1,Y2,Y3,Y4,Y5,Y6,Y7,Y8,Y9,YA,wE]
  exact Xs (v:=.bool false) rfl rfl (X3 _) (by rw [hE])
theorem ER (i:Nat):zs (List.range (i+1))=zs (List.range i) ++ [(i:Int)]:=by unfold zs; rw [List.range_succ,List.map_append]; rfl
theorem ql (L:List V2) (hl:L.length<1000000):HCall Tryz.prog 273 [Xt L] [] (.ref 0 0 0) (LX L (2*L.length) (List.range L.length)):=by
 refine HCall.intro (fn:=Tryz.f273) Tryz.call273 Tryz.func273 rfl mixed 5 [8,9,10] [] [] (by kernel_rfl) (Nat.le_of_ble_eq_true rfl) (X0 1000 ?_)
 simp only [AS.start,X5,↓X2,wA,seval,wE]
 refine Xe (fun i:Nat=>⟨5,[8,9,10],[.any,.any,.any,.ref 0 0 0,.any],[(8,Xt L),(9,I L.length),(10,I i)],[.row 0 2 (Xq [Xt L,.osl 1 i 1 0 i]),.row i i (Q4 I 0 (zs (List.range i)))]⟩) (fun i=>i≤L.length) (fun i=>L.length - i) 0 (by omega)
  (Sub.trans (Ix (Q4 I 0 (zs (List.range 0)))) (Sub.trans (Zv 0 (Xq [Xt L,.osl 1 0 1 0 0]) rfl (fun j hj=>by
   match j,hj with
   | 0,_=>exact J1 _ _
   | 1,_ =>
    show ZR _ (.sl 0 0 (fun _=>.any) true) (.osl 1 0 1 0 0)
    exact Bi (n:=0) (f:=Q4 I 0 (zs (List.range 0))) rfl
   | j+2,h=>exact absurd h (by show ¬ j+2<2; omega))) (Xa rfl (by simp [Xh]) (by simp [Xi,Xv,X5,I]) rfl))) ?_
 intro i hi next
 have w1:=wj i (by omega)
 by_cases hi2:i<L.length
 rotate_left
 ·obtain rfl:i=L.length:=by omega
  refine X0 1000 ?_
  simp only [X5,Int.lt_irrefl,Nat.lt_irrefl,↓X2,wA,seval,wE]
  refine LV rfl rfl ?_
  rw [J9,List.length_range,show 2*L.length - L.length=L.length by omega,X5]
 have nx:=next (i+1)
 rw [ER] at nx
 have hz:(zs (List.range i)).length=i:=by rw [Xl,List.length_range]
 generalize zs (List.range i)=Z at *
 have f1:((i:Int)<L.length)=True:=eq_true (by omega)
 have f2:(i<L.length)=True:=eq_true hi2
 have hap:=CJ Z (i:Int)
 rw [hz] at hap
 refine X0 1000 ?_
 simp only [X5,w1,f1,f2,Int.toNat_natCast,↓X2,wA,seval,wE]
 exact ⟨⟨by omega,by omega⟩,nx _ (by omega) (by omega) (Xa rfl (by simp [Xh]) (by simp [Xi,Xv,X5,I]) (by rw [← hap]; rfl))⟩
end
end Go.Ab.N
