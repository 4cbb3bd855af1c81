/- Contracts of functions of these chapters, for every argument that fits, and what they need. -/
import Derived.Test.YtefjhgcndhepeaaGreatC9
import Derived.Shelf.SlicesE.Delete
import Derived.Test.YtefjhgcndhepeaaGreatC3
import Derived.Test.YtefjhgcndhepeaaGreatC6
set_option linter.unusedSimpArgs false
set_option linter.unusedVariables false
open Nat renaming reducePow → Y1, reduceLT → Y2, reduceLeDiff → Y3, reduceEqDiff → Y4, reduceAdd → Y5, reduceMul → Y6, reduceSub → Y7, reduceBEq → Y8, reduceDiv → Y9, reduceMod → YA
namespace Go.Ab.N
open Go Go.RowKit Go.Proofs
noncomputable section
set_option maxRecDepth 10000
set_option maxHeartbeats 4000000
open Classical
def Fs (p:V2→Bool):List V2→V2×Bool
 | []=>(v0,false)
 | x :: l=>if p x=true then (x,true) else Fs p l
theorem GA {p:V2→Bool}:∀ {s:List V2} {j:Nat},j<s.length→p (s.getD j v0)=true→(∀ i,i<j→p (s.getD i v0)=false)→Fs p s=(s.getD j v0,true)
 | [],j,h,_,_=>absurd h (Nat.not_lt_zero j)
 | x :: l,0,_,h,_=>if_pos h
 | x :: l,j+1,hj,h,hno=>by
  have h0:p x=false:=hno 0 (by omega)
  have ih:=GA (p:=p) (s:=l) (j:=j) (by simpa using hj) h (fun i hi=>hno (i+1) (by omega))
  show (if p x=true then (x,true) else Fs p l)=_
  rw [if_neg (by rw [h0]; decide),ih]
  rfl
theorem ET {p:V2→Bool}:∀ {s:List V2},(∀ i,i<s.length→p (s.getD i v0)=false)→Fs p s=(v0,false)
 | [],_=>rfl
 | x :: l,hno=>by
  have h0:p x=false:=hno 0 (by simp)
  have ih:=ET (p:=p) (s:=l) (fun i hi=>hno (i+1) (by simpa using hi))
  show (if p x=true then (x,true) else Fs p l)=_
  rw [if_neg (by rw [h0]; decide),ih]
noncomputable def Zx (A B:List V2) (e:Rat):V2×Bool:=Fs (fun d=>decide (El d A B e)) (ZS A B)
structure Shp (c:Nat) (A:List V2):Prop where
 small:XV A c
 pos:0<A.length
 len:A.length<10000
theorem OK (A B:List V2) (e:Rat) (c:Nat) (ha:Shp c A) (hb:Shp c B) (h1:1≤c) (hc:c≤1000) (he:qb e≤10000):Fn Tryz.prog 244 [Xp A,Xp B,qA e] (.tup [vA (Zx A B e).1,.bool (Zx A B e).2]):=by
 obtain ⟨a1,a2,a3⟩:=ha
 obtain ⟨b1,b2,b3⟩:=hb
 obtain ⟨R,hR⟩:∃ R,R=Zx A B e:=⟨_,rfl⟩
 rw [← hR]
 have cd:=bM A B c a1 b1 (by omega) (by omega) (by omega)
 have hds:=IF A B c a1 b1 h1
 unfold Zx at hR
 have hlen:(ZS A B).length=A.length+B.length+4:=by unfold ZS; rw [List.length_append,List.length_append,BR,DT]; rfl
 generalize ZS A B=D at *
 have be:XI 2 (.row 0 4 (Xq (qC e)))=True:=eq_true (XG (by simp [qC,X7,X3]))
 have bz:XI 2 (.row 0 8 (Xq XT))=True:=eq_true (XG (KQ [] [] ⟨0,0,0,0,0,v0,v0,v0⟩ 0))
 have bA:Jj 2 (Xp A)=True:=eq_true (X6 (Xd A))
 have bB:Jj 2 (Xp B)=True:=eq_true (X6 (Xd B))
 have bD:Jj 2 (Xp D)=True:=eq_true (X6 (Xd D))
 refine Fq Tryz.call244 Tryz.func244 10 [12,13,14] [] [] (by simp [Xd,Xc]) (X1 1000 ?_)
 simp only [AS.start,X5,↓X2,wA,seval,wE]
 refine X0 cd rfl ?_
 simp only [X5,↓X2,wA,seval,wE]
 refine Xe (fun i:Nat=>⟨10,[12,13,14],[Xp A,Xp B,.any,.any,.any,.ref 0 0 0,.ref 1 0 0,.bool false,.any,.any],[(12,Xp D),(13,I D.length),(14,I i)],[.row 0 4 (Xq (qC e)),.row 0 8 (Xq XT)]⟩) (fun i=>i≤D.length∧∀ j,j<i→decide (El (D.getD j v0) A B e)=false) (fun i=>D.length - i) 0 ⟨by omega,by omega⟩
  (Xa rfl (by simp [Xh,X5,I]) (by simp [Xi,Xw,X5,I]) (by simp [qC,XT,X4])) ?_
 rintro i ⟨hi,hno⟩ next
 have w1:=wj i (by omega)
 by_cases hi2:i<D.length
 rotate_left
 ·obtain rfl:i=D.length:=by omega
  rw [ET hno] at hR
  refine X1 1000 ?_
  simp only [X5,XT,Int.lt_irrefl,Nat.lt_irrefl,↓X2,wA,seval,wE]
  subst hR
  exact QO rfl (Xo Jh rfl rfl rfl) (by unfold QA; rfl) (Xr (Xn _) (XS Z0)) ((X3 _).sees _)
 have f1:((i:Int)<D.length)=True:=eq_true (by omega)
 have f2:(i<D.length)=True:=eq_true hi2
 have f3:(i*8+8≤D.length*8)=True:=eq_true (by omega)
 have v1:=vF D i
 have hs:=hds _ (Ei hi2)
 have cs:=Oo (D.getD i v0) A B e c a1 b1 (by omega) (by omega) (by omega) a2 b2 (by omega) he
 have nx:=next (i+1)
 refine X1 1000 ?_
 simp only [X5,w1,f1,f2,f3,v1,Int.toNat_natCast,↓X2,wA,seval,wE]
 refine X0 cs rfl ?_
 by_cases hsep:El (D.getD i v0) A B e
 ·have hd:decide (El (D.getD i v0) A B e)=true:=decide_eq_true hsep
  rw [hd]
  rw [GA hi2 hd hno] at hR
  simp only [X5,XT,w1,f1,f2,f3,v1,Int.toNat_natCast,↓X2,wA,seval,wE]
  subst hR
  exact QO rfl (Xo Jh rfl rfl rfl) (by unfold QA; rfl) (Xr (Xn _) (XS (Q9 (vC (D.getD i v0))))) ((X3 _).sees _)
 ·have hd:decide (El (D.getD i v0) A B e)=false:=decide_eq_false hsep
  rw [hd]
  simp only [w1,↓X2,wA,seval,wE]
  exact nx _ ⟨by omega,JR.2 ⟨hno,hd⟩⟩ (by omega) (Xy (m:=2) (Nat.zero_le _) rfl (by simp [Xh,X5,I]) (by simp [Xi,Xw,X5,I]) (by simp [qC,XT,X4]) (by simp [Xx,bA,bB,bD]) (by simp [Xx,bD]) (by simp [be,bz]))
theorem gK (A B:List V2) (e:Rat) (c:Nat) (ha:Shp c A) (hb:Shp c B) (h1:1≤c) (hc:c≤1000) (he:qb e≤10000):Fn Tryz.prog 248 [Xp A,Xp B,qA e] (.tup [vA (Zx A B e).1,.bool (Zx A B e).2]):=by
 obtain ⟨a1,a2,a3⟩:=ha
 obtain ⟨b1,b2,b3⟩:=hb
 obtain ⟨R,hR⟩:∃ R,R=Zx A B e:=⟨_,rfl⟩
 rw [← hR]
 have cd:=gG A B c a1 b1 (by omega) (by omega) (by omega)
 have hds:=IF A B c a1 b1 h1
 unfold Zx at hR
 have hlen:(ZS A B).length=A.length+B.length+4:=by unfold ZS; rw [List.length_append,List.length_append,BR,DT]; rfl
 generalize ZS A B=D at *
 have be:XI 2 (.con 0 4 (Xq (qC e)))=True:=eq_true (fun j _=>X6 (Xg (by simp [qC,X7,X3]) j))
 have bz:XI 2 (.row 0 8 (Xq XT))=True:=eq_true (XG (KQ [] [] ⟨0,0,0,0,0,v0,v0,v0⟩ 0))
 have bA:Jj 2 (Xp A)=True:=eq_true (X6 (Xd A))
 have bB:Jj 2 (Xp B)=True:=eq_true (X6 (Xd B))
 have bD:Jj 2 (Xp D)=True:=eq_true (X6 (Xd D))
 refine Fq Tryz.call248 Tryz.func248 10 [] [5,60000005] [] (by simp [Xd,Xc]) (X1 1000 ?_)
 simp only [AS.start,X5,↓X2,wA,seval,wE]
 refine X0 cd rfl ?_
 simp only [X5,↓X2,wA,seval,wE]
 refine Xe (fun i:Nat=>⟨10,[],[Xp A,Xp B,.any,.any,.any,.ref 0 0 0,.ref 1 0 0,.bool false,Xp D,I i],[],[.con 0 4 (Xq (qC e)),.row 0 8 (Xq XT)]⟩) (fun i=>i≤D.length∧∀ j,j<i→decide (El (D.getD j v0) A B e)=false) (fun i=>D.length - i) 0 ⟨by omega,by omega⟩
  (Sub.trans (Qp 0 rfl) (Xa rfl (by simp [Xh,X5,I]) (by simp [Xi]) (by simp [qC,XT,X4]))) ?_
 rintro i ⟨hi,hno⟩ next
 have w1:=wj i (by omega)
 by_cases hi2:i<D.length
 rotate_left
 ·obtain rfl:i=D.length:=by omega
  rw [ET hno] at hR
  refine X1 1000 ?_
  simp only [X5,XT,Int.lt_irrefl,Nat.lt_irrefl,↓X2,wA,seval,wE]
  subst hR
  exact QO rfl (Xo Jh rfl rfl rfl) (by unfold QA; rfl) (Xr (Xn _) (XS Z0)) ((X3 _).sees _)
 have f1:((i:Int)<D.length)=True:=eq_true (by omega)
 have f2:(i<D.length)=True:=eq_true hi2
 have f3:(i*8+8≤D.length*8)=True:=eq_true (by omega)
 have v1:=vF D i
 have hs:=hds _ (Ei hi2)
 have cs:=Ml (D.getD i v0) A B e c a1 b1 (by omega) (by omega) (by omega) a2 b2 (by omega) he
 have nx:=next (i+1)
 refine X1 1000 ?_
 simp only [X5,w1,f1,f2,f3,v1,Int.toNat_natCast,↓X2,wA,seval,wE]
 refine X0 cs rfl ?_
 by_cases hsep:El (D.getD i v0) A B e
 ·have hd:decide (El (D.getD i v0) A B e)=true:=decide_eq_true hsep
  rw [hd]
  rw [GA hi2 hd hno] at hR
  simp only [X5,XT,w1,f1,f2,f3,v1,Int.toNat_natCast,↓X2,wA,seval,wE]
  subst hR
  exact QO rfl (Xo Jh rfl rfl rfl) (by unfold QA; rfl) (Xr (Xn _) (XS (Q9 (vC (D.getD i v0))))) ((X3 _).sees _)
 ·have hd:decide (El (D.getD i v0) A B e)=false:=decide_eq_false hsep
  rw [hd]
  simp only [w1,↓X2,wA,seval,wE]
  exact nx _ ⟨by omega,JR.2 ⟨hno,hd⟩⟩ (by omega) (Xy (m:=2) (Nat.zero_le _) rfl (by simp [Xh,X5,I]) (by simp [Xi]) (by simp [qC,XT,X4]) (by simp [Xx,bA,bB,bD]) (by simp [Xx,bD]) (by simp [be,bz]))
noncomputable def Gl (l:List (List V2)):AV:=Qk Xp [] l
theorem XD (l:List (List V2)):Gl l=.sl l.length l.length (Q1 Xp [] l) false:=nrfl rfl
theorem JX (l:List (List V2)):Settled (Gl l):=JD fun _ _=>Xd _
theorem nX (l:List (List V2)) (i:Nat):Q1 Xp [] l i=Xp (l.getD i []):=nrfl rfl
noncomputable def Z6 (A B:List (List V2)) (e:Rat) (i k:Nat):Bool:=(Zx (A.getD i []) (B.getD k []) e).2
noncomputable def Ii (A B:List (List V2)) (e:Rat) (i:Nat):Bool:=decide (∀ k,k<B.length→Z6 A B e i k=true)
noncomputable def Fi (A B:List (List V2)) (e:Rat):Bool:=decide (∀ i,i<A.length→Ii A B e i=true)
theorem Uu {A B:List (List V2)} {e:Rat} {i k:Nat} (h:k<B.length) (hp:Z6 A B e i k=false):Ii A B e i=false :=
 decide_eq_false fun H=>by rw [H k h] at hp; cases hp
theorem jG {A B:List (List V2)} {e:Rat} {i:Nat} (h:i<A.length) (hp:Ii A B e i=false):Fi A B e=false :=
 decide_eq_false fun H=>by rw [H i h] at hp; cases hp
theorem mn (A B:List (List V2)) (e:Rat) (c:Nat) (ha:∀ i,i<A.length→Shp c (A.getD i [])) (hb:∀ i,i<B.length→Shp c (B.getD i [])) (h1:1≤c) (hc:c≤1000) (he:qb e≤10000) (la:A.length≤1000) (lb:B.length≤1000) :
  Fn Tryz.prog 214 [Gl A,Gl B,qA e] (.tup [.any,.bool (Fi A B e)]):=by
 have hvc:∀ a:V2,∀ x∈vC a,Settled x:=fun a=>by simp [vC,X7,X3]
 have be:XI 2 (.con 0 4 (Xq (qC e)))=True:=eq_true (fun j _=>X6 (Xg (by simp [qC,X7,X3]) j))
 have bA:Jj 2 (Gl A)=True:=eq_true (X6 (JX A))
 have bB:Jj 2 (Gl B)=True:=eq_true (X6 (JX B))
 have br:∀ i l n,XI 2 (.row i n (XB vC 8 v0 l))=True:=fun i l n=>eq_true fun j _=>X6 (Xg (hvc _) _)
 have vA':=fun i=>nX A i
 have vB':=fun i=>nX B i
 refine Fq Tryz.call214 Tryz.func214 13 [] [8,90000005] [] (by simp [JX,Xc]) (X1 1000 ?_)
 simp only [AS.start,XD,↓X2,wA,seval,wE]
 refine Xe (fun w:Nat×List V2=>⟨13,[],[Gl A,Gl B,.any,.any,.any,.ref 0 0 0,.any,.any,.osl 1 w.2.length 8 0 w.2.length,I w.1,.any,.any,.any],[],[.con 0 4 (Xq (qC e)),.row w.2.length (w.2.length*8) (XB vC 8 v0 w.2)]⟩) (fun w=>w.1≤A.length∧w.2.length=w.1*B.length∧∀ j,j<w.1→Ii A B e j=true) (fun w=>A.length - w.1) (0,[]) ⟨by simp,by simp,fun j hj=>absurd hj (Nat.not_lt_zero j)⟩
  (Sub.trans (Qp 0 rfl) (Sub.trans (Q7 8 8 (XB vC 8 v0 []) rfl) (Xa rfl (by simp [AS.put,Xh,XD,I]) (by simp [Xi]) (by simp [qC,X4])))) ?_
 rintro ⟨i,W⟩ ⟨hi,hW,hno⟩ next
 replace hi:i≤A.length:=hi
 replace hW:W.length=i*B.length:=hW
 replace hno:∀ j,j<i→Ii A B e j=true:=hno
 have w1:=wj i (by omega)
 by_cases hi2:i<A.length
 rotate_left
 ·obtain rfl:i=A.length:=by omega
  have hR:Fi A B e=true:=decide_eq_true hno
  rw [hR]
  refine X1 1000 ?_
  simp only [XD,Int.lt_irrefl,Nat.lt_irrefl,↓X2,wA,seval,wE]
  exact RD rfl (Zk ⟨Xr ZF (Gi _),(X3 _).sees _,trivial⟩)
 have f1:((i:Int)<A.length)=True:=eq_true (by omega)
 have f2:(i<A.length)=True:=eq_true hi2
 have f3:(i+1≤A.length)=True:=eq_true (by omega)
 refine X1 1000 ?_
 simp only [XD,w1,f1,f2,f3,↓X2,wA,seval,wE]
 refine Xe (fun w:Nat×List V2=>⟨13,[],[Gl A,Gl B,.any,.any,.any,.ref 0 0 0,.any,.any,.osl 1 w.2.length 8 0 w.2.length,I i,I w.1,.any,.any],[],[.con 0 4 (Xq (qC e)),.row w.2.length (w.2.length*8) (XB vC 8 v0 w.2)]⟩) (fun w=>w.1≤B.length∧w.2.length=i*B.length+w.1∧∀ k,k<w.1→Z6 A B e i k=true) (fun w=>B.length - w.1) (0,W) ⟨by simp,by simpa using hW,fun j hj=>absurd hj (Nat.not_lt_zero j)⟩
  (Xa rfl (by simp [Xh,XD,I]) (by simp [Xi]) (by simp [qC,X4])) ?_
 rintro ⟨k,Y⟩ ⟨hk,hY,hyes⟩ next2
 replace hk:k≤B.length:=hk
 replace hY:Y.length=i*B.length+k:=hY
 replace hyes:∀ j,j<k→Z6 A B e i j=true:=hyes
 have w2:=wj k (by omega)
 by_cases hk2:k<B.length
 rotate_left
 ·obtain rfl:k=B.length:=by omega
  have nx:=next (i+1,Y)
  refine X1 1000 ?_
  simp only [XD,w1,Int.lt_irrefl,Nat.lt_irrefl,↓X2,wA,seval,wE]
  exact nx _ ⟨by omega,by simp only; rw [hY,Nat.succ_mul],JR.2 ⟨hno,decide_eq_true hyes⟩⟩ (by simp only; omega) (Xa rfl (by simp [Xh,XD,I]) (by simp [Xi]) (by simp [qC,X4]))
 have g1:((k:Int)<B.length)=True:=eq_true (by omega)
 have g2:(k<B.length)=True:=eq_true hk2
 have g3:(k+1≤B.length)=True:=eq_true (by omega)
 have cf:=gK (A.getD i []) (B.getD k []) e c (ha i hi2) (hb k hk2) h1 hc he
 have hb1:i*B.length≤1000*1000:=Nat.mul_le_mul (by omega) lb
 have hap:=XQ vC 8 v0 Y (Zx (A.getD i []) (B.getD k []) e).1 (by omega)
 refine X1 1000 ?_
 simp only [XD,w1,w2,f1,f2,f3,g1,g2,g3,vA',vB',Int.toNat_natCast,↓X2,wA,seval,wE]
 refine X0 cf rfl ?_
 have hpk:Z6 A B e i k=(Zx (A.getD i []) (B.getD k []) e).2:=rfl
 cases hv:(Zx (A.getD i []) (B.getD k []) e).2 with
 | false =>
  have hR:Fi A B e=false:=jG hi2 (Uu hk2 (hpk.trans hv))
  rw [hR]
  simp only [w1,w2,↓X2,wA,seval,wE]
  exact RD rfl (Zk ⟨Xr ZF (Gi _),(X3 _).sees _,trivial⟩)
 | true =>
  have nx:=next2 (k+1,Y ++ [(Zx (A.getD i []) (B.getD k []) e).1])
  simp only [List.length_append,List.length_singleton] at nx
  simp only [w1,w2,↓X2,wA,seval,wE]
  exact ⟨⟨Z9 _,by omega,by omega⟩,nx _ ⟨by omega,by omega,JR.2 ⟨hyes,hpk.trans hv⟩⟩ (by omega) (Xy (m:=2) (Nat.zero_le _) rfl (by simp [Xh,XD,I]) (by simp [Xi]) (by rw [← hap]; rfl) (by simp [Xx,bA,bB]) (by simp [Xx]) (by simp [be,br]))⟩
def Zm (A:List (List V2)):AV:=.ptr 1 (Xq [Gl A]) 0
theorem QS (A:List (List V2)):Zm A=.ptr 1 (Xq [Gl A]) 0:=nrfl rfl
theorem G8 (A:List (List V2)):Settled (Zm A):=Ji fun j hj=>by
 obtain rfl:j=0:=by omega
 exact JX A
theorem gc (A B:List (List V2)):Fn Tryz.prog 243 [Gl A,Gl B] (.fn 260 [Zm A,Zm B]):=by
 have hset:Settled (.fn 260 [Zm A,Zm B]):=K3 (by
  intro a ha
  simp only [List.mem_cons,List.not_mem_nil,or_false] at ha
  rcases ha with rfl | rfl <;> exact G8 _)
 refine Fq Tryz.call243 Tryz.func243 5 [] [] [] (by simp [JX]) (X1 1000 ?_)
 simp only [AS.start,XD,↓X2,wA,seval,wE]
 refine AR rfl (Ee ⟨AU (.inl rfl) (by omega) fun j hj=>?_,AU (.inl rfl) (by omega) fun j hj=>?_,trivial⟩)
 ·obtain rfl:j=0:=by omega
  exact (JX A).sees _
 ·obtain rfl:j=0:=by omega
  exact (JX B).sees _
theorem Fu {P:Program} {tok:List Tok} {all:Array Oper} {i:Nat} {s:AS} {o:Oper} {v:AV} {h':List AO} (ho:all[i]?=some o) (hg:o.guard=none) (h:QZ P false none o.op s.ev s.h=some (v,h')) :
  GStep P tok (fun _=>false) true (fun _=>none) all i s (({ s with h:=h' }:AS).putO o.dst v):=⟨o,ho,.inl ⟨by unfold gval; rw [hg],⟨fun _ h=>(by cases h),v,h',.inl h,rfl⟩⟩⟩
def VK (m:Nat) (H:List AO):Prop:=H.length=m∧∀ o∈H,XI m o∧o≠.unborn∧∀ v n f,o≠.con v n f
theorem TN (A B:List (List V2)) (t:Tok) (m:Nat) (Hs:Nat→List AO) (la:A.length≤1000) (lb:B.length≤1000) (hHs:∀ n,VK m (Hs n)) (hce:t.ce.H.length≤m)
  (hy:∀ i k,i<A.length→k<B.length→YCall Tryz.prog t [Xp (A.getD i []),Xp (B.getD k [])] (Hs (i*B.length+k)) (.bool true) (Hs (i*B.length+k+1))) :
  ICall Tryz.prog t 260 [.yld t.l,Zm A,Zm B] (Hs 0) (Hs (A.length*B.length)):=by
 have vA':=fun i=>nX A i
 have vB':=fun i=>nX B i
 refine ICall.intro (fn:=Tryz.f260) Tryz.call260 Tryz.func260 rfl mixed 8 [8,9,10,14,15,16] [] [] (by kernel_rfl) (Nat.le_of_ble_eq_true rfl) (by rw [(hHs 0).1]; exact hce) (by rw [(hHs 0).1]; exact fun o ho=>((hHs _).2 o ho).1) (X1 1000 ?_)
 simp only [AS.start,QS,XD,↓X2,wA,seval,wE]
 refine Xe (fun i:Nat=>⟨8,[8,9,10,14,15,16],[.yld t.l,Zm A,Zm B,.any,.any,.any,.any,.any],[(8,Gl A),(9,I A.length),(10,I i)],Hs (i*B.length)⟩) (fun i=>i≤A.length) (fun i=>A.length - i) 0 (by omega)
  (Xa rfl (by simp [Xh,QS,XD]) (by simp [Xi,Xw,XD,I]) (by simp)) ?_
 intro i hi next
 have w1:=wj i (by omega)
 by_cases hi2:i<A.length
 rotate_left
 ·obtain rfl:i=A.length:=by omega
  refine X1 1000 ?_
  simp only [QS,XD,Int.lt_irrefl,Nat.lt_irrefl,↓X2,wA,seval,wE]
  exact sk rfl (by show (Hs _).take (Hs 0).length=_; rw [(hHs 0).1,← (hHs (A.length*B.length)).1,List.take_length])
 have f1:((i:Int)<A.length)=True:=eq_true (by omega)
 have f2:(i<A.length)=True:=eq_true hi2
 have f3:(i+1≤A.length)=True:=eq_true (by omega)
 refine X1 1000 ?_
 simp only [QS,XD,w1,f1,f2,f3,vA',Int.toNat_natCast,↓X2,wA,seval,wE]
 refine Xe (fun k:Nat=>⟨8,[8,9,10,14,15,16],[.yld t.l,Zm A,Zm B,.any,.any,Xp (A.getD i []),.any,.any],[(14,Gl B),(15,I B.length),(16,I k),(8,Gl A),(9,I A.length),(10,I i)],Hs (i*B.length+k)⟩) (fun k=>k≤B.length) (fun k=>B.length - k) 0 (by omega)
  (Xa rfl (by simp [Xh,QS,XD,X5]) (by simp [Xi,Xw,XD,I]) (by simp)) ?_
 intro k hk next2
 have w2:=wj k (by omega)
 by_cases hk2:k<B.length
 rotate_left
 ·obtain rfl:k=B.length:=by omega
  refine X1 1000 ?_
  simp only [QS,XD,w1,Int.lt_irrefl,Nat.lt_irrefl,↓X2,wA,seval,wE]
  exact next (i+1) _ (by omega) (by omega) (Xa rfl (by simp [Xh,QS,XD]) (by simp [Xi,Xw,XD,I]) (by simp [Nat.succ_mul]))
 have g1:((k:Int)<B.length)=True:=eq_true (by omega)
 have g2:(k<B.length)=True:=eq_true hk2
 have g3:(k+1≤B.length)=True:=eq_true (by omega)
 refine X1 1000 ?_
 simp only [QS,XD,w1,w2,g1,g2,g3,vB',Int.toNat_natCast,↓X2,wA,seval,wE]
 obtain ⟨q1,q2⟩:=hHs (i*B.length+k)
 obtain ⟨q3,q4⟩:=hHs (i*B.length+k+1)
 refine EK (t:=t) (H1:=Hs (i*B.length+k)) (H1':=Hs (i*B.length+k+1)) (rest:=[]) rfl rfl (List.mem_singleton.2 rfl) (hy i k hi2 hk2) (List.append_nil _).symm (q3.trans q1.symm) (by rw [q1]; exact hce) ?_ (by rw [q1]; exact fun o ho=>(q2 o ho).1) (fun o ho=>(q2 o ho).2.1) (fun o ho=>(q4 o ho).2.1) (Jo (fun o ho=>(q2 o ho).2.2) (fun o ho=>(q4 o ho).2.2)) ⟨Weak.rfl' _,Weak.rfl' _,trivial⟩ ?_
 ·intro a ha
  simp only [List.mem_cons,List.not_mem_nil,or_false] at ha
  rcases ha with rfl | rfl <;> exact X6 (Xd _)
 simp only [QS,XD,w1,w2,↓X2,wA,seval,wE]
 exact next2 (k+1) _ (by omega) (by omega) (Xa rfl (by simp [Xh,QS,XD]) (by simp [Xi,Xw,XD,I]) (by simp [Nat.add_assoc]))
theorem Yw (A B:List (List V2)) (t:Tok) (m:Nat) (Hs:Nat→List AO) (Hf:List AO) (la:A.length≤1000) (lb:B.length≤1000) (hHs:∀ n,VK m (Hs n)) (hce:t.ce.H.length≤m)
  (i0 k0:Nat) (hi0:i0<A.length) (hk0:k0<B.length) (hy:∀ i k,i<i0∨i=i0∧k<k0→k<B.length→YCall Tryz.prog t [Xp (A.getD i []),Xp (B.getD k [])] (Hs (i*B.length+k)) (.bool true) (Hs (i*B.length+k+1))) (hz:YC Tryz.prog t false [Xp (A.getD i0 []),Xp (B.getD k0 [])] (Hs (i0*B.length+k0)) Hf) (hHf:VK m Hf) :
  ICallQ Tryz.prog t false 260 [.yld t.l,Zm A,Zm B] (Hs 0) Hf:=by
 have vA':=fun i=>nX A i
 have vB':=fun i=>nX B i
 refine ICallQ.intro (fn:=Tryz.f260) Tryz.call260 Tryz.func260 rfl mixed 8 [8,9,10,14,15,16] [] [] (by kernel_rfl) (Nat.le_of_ble_eq_true rfl) (by rw [(hHs 0).1]; exact hce) (by rw [(hHs 0).1]; exact fun o ho=>(hHf.2 o ho).1) (X1 1000 ?_)
 simp only [AS.start,QS,XD,↓X2,wA,seval,wE]
 refine Xe (fun i:Nat=>⟨8,[8,9,10,14,15,16],[.yld t.l,Zm A,Zm B,.any,.any,.any,.any,.any],[(8,Gl A),(9,I A.length),(10,I i)],Hs (i*B.length)⟩) (fun i=>i≤i0) (fun i=>i0 - i) 0 (by omega)
  (Xa rfl (by simp [Xh,QS,XD]) (by simp [Xi,Xw,XD,I]) (by simp)) ?_
 intro i hi next
 have w1:=wj i (by omega)
 have hi2:i<A.length:=by omega
 have f1:((i:Int)<A.length)=True:=eq_true (by omega)
 have f2:(i<A.length)=True:=eq_true hi2
 have f3:(i+1≤A.length)=True:=eq_true (by omega)
 refine X1 1000 ?_
 simp only [QS,XD,w1,f1,f2,f3,vA',Int.toNat_natCast,↓X2,wA,seval,wE]
 refine Xe (fun k:Nat=>⟨8,[8,9,10,14,15,16],[.yld t.l,Zm A,Zm B,.any,.any,Xp (A.getD i []),.any,.any],[(14,Gl B),(15,I B.length),(16,I k),(8,Gl A),(9,I A.length),(10,I i)],Hs (i*B.length+k)⟩) (fun k=>k≤B.length∧(i=i0→k≤k0)) (fun k=>B.length - k) 0 ⟨by omega,by omega⟩
  (Xa rfl (by simp [Xh,QS,XD,X5]) (by simp [Xi,Xw,XD,I]) (by simp)) ?_
 rintro k ⟨hk,hkk⟩ next2
 have w2:=wj k (by omega)
 by_cases hk2:k<B.length
 rotate_left
 ·obtain rfl:k=B.length:=by omega
  refine X1 1000 ?_
  simp only [QS,XD,w1,Int.lt_irrefl,Nat.lt_irrefl,↓X2,wA,seval,wE]
  exact next (i+1) _ (by omega) (by omega) (Xa rfl (by simp [Xh,QS,XD]) (by simp [Xi,Xw,XD,I]) (by simp [Nat.succ_mul]))
 have g1:((k:Int)<B.length)=True:=eq_true (by omega)
 have g2:(k<B.length)=True:=eq_true hk2
 have g3:(k+1≤B.length)=True:=eq_true (by omega)
 by_cases hlast:i=i0∧k=k0
 ·obtain ⟨rfl,rfl⟩:=hlast
  refine X1 20 ?_
  simp only [QS,XD,w1,w2,g1,g2,g3,vB',Int.toNat_natCast,↓X2,wA,seval,wE]
  refine mv (t:=t) (j:=3) (l1:=[0,1,2]) (l2:=[4]) rfl rfl (List.mem_singleton.2 rfl) rfl rfl ⟨_,Fu rfl rfl rfl,_,Fu rfl rfl rfl,_,Fu rfl rfl rfl,rfl⟩ ⟨rfl,_,_,_,[Xp (A.getD i []),Xp (B.getD k [])],Hf,rfl,rfl,⟨Weak.rfl' _,Weak.rfl' _,trivial⟩,hz,rfl⟩ ⟨_,Fu rfl rfl rfl,rfl⟩ ?_
  show Run (rL Tryz.prog Tryz.f260 [] [] (Hs 0).length Hf) _ _
  refine Run.sub (s':=⟨8,[],[],[(24,.bool true)],Hf⟩) ?_ (Xa rfl trivial ⟨.inr rfl,trivial⟩ rfl)
  refine X1 1000 ?_
  simp only [↓X2,wA,seval,wE]
  exact tr rfl (by show Hf.take (Hs 0).length=_; rw [(hHs 0).1,← hHf.1,List.take_length])
 have hp:i<i0∨i=i0∧k<k0:=by omega
 refine X1 1000 ?_
 simp only [QS,XD,w1,w2,g1,g2,g3,vB',Int.toNat_natCast,↓X2,wA,seval,wE]
 obtain ⟨q1,q2⟩:=hHs (i*B.length+k)
 obtain ⟨q3,q4⟩:=hHs (i*B.length+k+1)
 refine EK (t:=t) (H1:=Hs (i*B.length+k)) (H1':=Hs (i*B.length+k+1)) (rest:=[]) rfl rfl (List.mem_singleton.2 rfl) (hy i k hp hk2) (List.append_nil _).symm (q3.trans q1.symm) (by rw [q1]; exact hce) ?_ (by rw [q1]; exact fun o ho=>(q2 o ho).1) (fun o ho=>(q2 o ho).2.1) (fun o ho=>(q4 o ho).2.1) (Jo (fun o ho=>(q2 o ho).2.2) (fun o ho=>(q4 o ho).2.2)) ⟨Weak.rfl' _,Weak.rfl' _,trivial⟩ ?_
 ·intro a ha
  simp only [List.mem_cons,List.not_mem_nil,or_false] at ha
  rcases ha with rfl | rfl <;> exact X6 (Xd _)
 simp only [QS,XD,w1,w2,↓X2,wA,seval,wE]
 exact next2 (k+1) _ ⟨by omega,by omega⟩ (by omega) (Xa rfl (by simp [Xh,QS,XD]) (by simp [Xi,Xw,XD,I]) (by simp [Nat.add_assoc]))
noncomputable def kM (A B:List (List V2)) (e:Rat) (n:Nat):V2:=(Zx (A.getD (n / B.length) []) (B.getD (n % B.length) []) e).1
noncomputable def D8 (A B:List (List V2)) (e:Rat) (n:Nat):List V2:=(List.range n).map (kM A B e)
theorem dH (A B:List (List V2)) (e:Rat) (n:Nat):(D8 A B e n).length=n:=by unfold D8; rw [List.length_map,List.length_range]
theorem WS (A B:List (List V2)) (e:Rat) (n:Nat):D8 A B e (n+1)=D8 A B e n ++ [kM A B e n]:=by unfold D8; rw [List.range_succ,List.map_append]; rfl
theorem kN (A B:List (List V2)) (e:Rat) (i k:Nat) (hk:k<B.length):kM A B e (i*B.length+k)=(Zx (A.getD i []) (B.getD k []) e).1:=by
 unfold kM
 rw [show i*B.length+k=k+B.length*i by rw [Nat.mul_comm,Nat.add_comm],Nat.add_mul_div_left _ _ (by omega),Nat.add_mul_mod_self_left,Nat.div_eq_of_lt hk,Nat.mod_eq_of_lt hk,Nat.zero_add]
def Gp (e:Rat) (W:List V2):List AO:=[.row 0 4 (Xq (qC e)),.row 0 1 (Xq [.sl 0 0 (fun _=>.any) true]),.row 0 1 (Xq [.bool false]),.row 0 1 (Xq [.osl 4 W.length 8 0 W.length]),.row W.length (W.length*8) (XB vC 8 v0 W)]
theorem Ih (e:Rat) (W:List V2):Gp e W=[.row 0 4 (Xq (qC e)),.row 0 1 (Xq [.sl 0 0 (fun _=>.any) true]),.row 0 1 (Xq [.bool false]),.row 0 1 (Xq [.osl 4 W.length 8 0 W.length]),.row W.length (W.length*8) (XB vC 8 v0 W)]:=nrfl rfl
theorem NJ (e:Rat) (W:List V2):VK 5 (Gp e W):=by
 have hvc:∀ a:V2,∀ x∈vC a,Settled x:=fun a=>by simp [vC,X7,X3]
 refine ⟨rfl,fun o ho=>?_⟩
 simp only [Gp,List.mem_cons,List.not_mem_nil,or_false] at ho
 rcases ho with rfl | rfl | rfl | rfl | rfl
 ·exact ⟨by simp [qC,Xx],by simp,by simp⟩
 ·exact ⟨by simp [Xx],by simp,by simp⟩
 ·exact ⟨by simp [Xx],by simp,by simp⟩
 ·exact ⟨by simp [Xx],by simp,by simp⟩
 ·exact ⟨fun j _=>X6 (Xg (hvc _) _),by simp,by simp⟩
theorem nJ {p:Nat→Prop}:∀ n,p n→∃ n,p n∧∀ m,m<n→¬ p m:=by
 intro n
 induction n using Nat.strongRecOn with
 | ind n ih =>
  intro h
  by_cases hm:∃ m,m<n∧p m
  ·obtain ⟨m,h1,h2⟩:=hm
   exact ih m h1 h2
  ·exact ⟨n,h,fun m hm' hp=>hm ⟨m,hm',hp⟩⟩
def Wc (e:Rat) (W:List V2):List AO:=[.row 0 4 (Xq (qC e)),.row 0 1 (Xq [.sl 0 0 (fun _=>.any) false]),.row 0 1 (Xq [.bool false]),.row 0 1 (Xq [.osl 4 W.length 8 0 W.length]),.row W.length (W.length*8) (XB vC 8 v0 W)]
theorem OR (e:Rat) (W:List V2):Wc e W=[.row 0 4 (Xq (qC e)),.row 0 1 (Xq [.sl 0 0 (fun _=>.any) false]),.row 0 1 (Xq [.bool false]),.row 0 1 (Xq [.osl 4 W.length 8 0 W.length]),.row W.length (W.length*8) (XB vC 8 v0 W)]:=nrfl rfl
theorem Uv (e:Rat) (W:List V2):VK 5 (Wc e W):=by
 have hvc:∀ a:V2,∀ x∈vC a,Settled x:=fun a=>by simp [vC,X7,X3]
 refine ⟨rfl,fun o ho=>?_⟩
 simp only [Wc,List.mem_cons,List.not_mem_nil,or_false] at ho
 rcases ho with rfl | rfl | rfl | rfl | rfl
 ·exact ⟨by simp [qC,Xx],by simp,by simp⟩
 ·exact ⟨by simp [Xx],by simp,by simp⟩
 ·exact ⟨by simp [Xx],by simp,by simp⟩
 ·exact ⟨by simp [Xx],by simp,by simp⟩
 ·exact ⟨fun j _=>X6 (Xg (hvc _) _),by simp,by simp⟩
theorem SP {A B:List (List V2)} {e:Rat} (h:Fi A B e=false):∃ i k,i<A.length∧k<B.length∧Z6 A B e i k=false∧∀ j l,(j<i∨j=i∧l<k)→l<B.length→Z6 A B e j l=true:=by
 have h1:¬ ∀ i,i<A.length→Ii A B e i=true:=fun H=>by
  have:Fi A B e=true:=decide_eq_true H
  rw [h] at this; cases this
 have h2:∃ i,i<A.length∧Ii A B e i=false:=by
  apply Classical.byContradiction
  intro H
  refine h1 fun i hi=>?_
  cases hp:Ii A B e i with
  | true=>rfl
  | false=>exact absurd ⟨i,hi,hp⟩ H
 obtain ⟨i',hi'⟩:=h2
 obtain ⟨i,⟨hi,hp⟩,hmin⟩:=nJ (p:=fun i=>i<A.length∧Ii A B e i=false) i' hi'
 have h4:∃ k,k<B.length∧Z6 A B e i k=false:=by
  apply Classical.byContradiction
  intro H
  have:Ii A B e i=true:=decide_eq_true fun k hk=>by
   cases hq:Z6 A B e i k with
   | true=>rfl
   | false=>exact absurd ⟨k,hk,hq⟩ H
  rw [hp] at this; cases this
 obtain ⟨k',hk'⟩:=h4
 obtain ⟨k,⟨hk,hq⟩,hmin2⟩:=nJ (p:=fun k=>k<B.length∧Z6 A B e i k=false) k' hk'
 refine ⟨i,k,hi,hk,hq,fun j l hjl hl=>?_⟩
 cases hv:Z6 A B e j l with
 | true=>rfl
 | false =>
  rcases hjl with hj | ⟨rfl,hlk⟩
  ·exact absurd ⟨by omega,Uu hl hv⟩ (hmin j hj)
  ·exact absurd ⟨hl,hv⟩ (hmin2 l hlk)
theorem jw (A B:List (List V2)) (e:Rat) (c:Nat) (ha:∀ i,i<A.length→Shp c (A.getD i [])) (hb:∀ i,i<B.length→Shp c (B.getD i [])) (h1:1≤c) (hc:c≤1000) (he:qb e≤10000) (la:A.length≤1000) (lb:B.length≤1000) :
  Fn Tryz.prog 201 [Gl A,Gl B,qA e] (.tup [.any,.bool (Fi A B e)]):=by
 have cp:=gc A B
 obtain ⟨R,hR⟩:∃ R,R=Fi A B e:=⟨_,rfl⟩
 rw [← hR]
 have s15:Settled (.fn 260 [Zm A,Zm B]):=K3 (by
  intro a ha
  simp only [List.mem_cons,List.not_mem_nil,or_false] at ha
  rcases ha with rfl | rfl <;> exact G8 _)
 refine Fq Tryz.call201 Tryz.func201 13 [16,17] [] [] (by simp [JX,Xc]) (X1 1000 ?_)
 simp only [AS.start,XD,↓X2,wA,seval,wE]
 refine X0 cp rfl ?_
 simp only [XD,↓X2,wA,seval,wE]
 refine Run.sub (s':=⟨13,[16,17],[.any,.any,.any,.any,.any,.ref 0 0 0,.ref 1 0 0,.ref 2 0 0,.ref 3 0 0,.any,.any,.any,.any],[(15,.fn 260 [Zm A,Zm B])],Gp e []⟩) ?_ ((QN 3 1 (fun _=>.sl 0 0 (fun _=>.any) true) rfl (Nat.le_refl _) (fun j hj=>by have e:j=0:=Nat.lt_one_iff.1 hj; subst e; rfl)).trans ((BJ 3 8 (XB vC 8 v0 []) rfl 1 (Nat.le_refl _)).trans ((QN 3 1 (Xq [.osl 4 0 8 0 0]) rfl (Nat.le_refl _) (fun j hj=>by have e:j=0:=Nat.lt_one_iff.1 hj; subst e; rfl)).trans (Xa rfl (by simp [Xh]) (by simp [Xi,Xw]) (by simp [Gp,qC,X4])))))
 have hb1:∀ i k,i<A.length→k<B.length→i*B.length+k<1000*1000:=fun i k hi hk=>by
  have h2:i*B.length+B.length≤A.length*B.length:=by rw [← Nat.succ_mul]; exact Nat.mul_le_mul_right _ hi
  have h3:A.length*B.length≤1000*1000:=Nat.mul_le_mul la lb
  omega
 have hN:∃ N,(R=true∧N=A.length*B.length∧∀ i k,i<A.length→k<B.length→Z6 A B e i k=true)∨(R=false∧∃ i0 k0,N=i0*B.length+k0∧i0<A.length∧k0<B.length∧Z6 A B e i0 k0=false∧∀ j l,(j<i0∨j=i0∧l<k0)→l<B.length→Z6 A B e j l=true):=by
  cases hq:Fi A B e with
  | true =>
   have h2:=of_decide_eq_true hq
   exact ⟨_,.inl ⟨hR.trans hq,rfl,fun i k hi hk=>of_decide_eq_true (h2 i hi) k hk⟩⟩
  | false =>
   obtain ⟨i0,k0,g1,g2,g3,g4⟩:=SP hq
   exact ⟨_,.inr ⟨hR.trans hq,i0,k0,rfl,g1,g2,g3,g4⟩⟩
 obtain ⟨N,hN⟩:=hN
 refine DB R (gf:=260) (caps:=[Zm A,Zm B]) (Hn:=cond R (Gp e (D8 A B e N)) (Wc e (D8 A B e N))) rfl rfl rfl (fun t ht=>?_) ?_
 ·have yT:∀ i k,i<A.length→k<B.length→Z6 A B e i k=true→YCall Tryz.prog t [Xp (A.getD i []),Xp (B.getD k [])] (Gp e (D8 A B e (i*B.length+k))) (.bool true) (Gp e (D8 A B e (i*B.length+k+1))):=fun i k hi hk hp=>by
   have cf:=OK (A.getD i []) (B.getD k []) e c (ha i hi) (hb k hk) h1 hc he
   rw [show (Zx (A.getD i []) (B.getD k []) e).2=true from hp] at cf
   have hd:=kN A B e i k hk
   have hlt:=hb1 i k hi hk
   have hs:=WS A B e (i*B.length+k)
   have hl:=dH A B e (i*B.length+k)
   rw [hs,hd]
   generalize D8 A B e (i*B.length+k)=W at *
   generalize (Zx (A.getD i []) (B.getD k []) e).1=d at *
   have hap:=XQ vC 8 v0 W d (by omega)
   refine HA (str:=[]) (hcs:=[]) ht mixed (by kernel_rfl) (by kernel_rfl) rfl (fun p hp=>?_) (fun o ho=>((NJ e _).2 o ho).1) (fun l r hr=>?_)
   ·have hp':p=16∨p=17:=by simpa using hp
    rcases hp' with rfl | rfl <;> exact Nat.le_of_ble_eq_true rfl
   show Run _ _ ⟨13,[16,17],[.any,.any,.any,.any,.any,.ref 0 0 0,.ref 1 0 0,.ref 2 0 0,.ref 3 0 0,.any,.any,.any,.any],[(17,Xp (B.getD k [])),(16,Xp (A.getD i [])),(15,.fn 260 [Zm A,Zm B])],Gp e W⟩
   refine X1 1000 ?_
   simp only [Ih,↓X2,wA,seval,wE]
   refine IK hr ?_
   refine X1 1000 ?_
   simp only [↓X2,wA,seval,wE]
   refine X0 cf rfl ?_
   simp only [↓X2,wA,seval,wE]
   refine ⟨⟨Z9 _,by omega,by omega⟩,so ?_⟩
   rw [List.length_append,List.length_singleton,← hap]
   rfl
  have hce:t.ce.H.length≤5:=by rw [ht.ch]; exact Nat.le_refl _
  rcases hN with ⟨rfl,rfl,hall⟩ | ⟨rfl,i0,k0,rfl,hi0,hk0,hno,hyes⟩
  ·exact TN A B t 5 (fun n=>Gp e (D8 A B e n)) la lb (fun n=>NJ _ _) hce fun i k hi hk=>yT i k hi hk (hall i k hi hk)
  ·refine Yw A B t 5 (fun n=>Gp e (D8 A B e n)) (Wc e (D8 A B e (i0*B.length+k0))) la lb (fun n=>NJ _ _) hce i0 k0 hi0 hk0 (fun i k h hk=>yT i k (by omega) hk (hyes i k h hk)) ?_ (Uv _ _)
   have cf:=OK (A.getD i0 []) (B.getD k0 []) e c (ha i0 hi0) (hb k0 hk0) h1 hc he
   rw [show (Zx (A.getD i0 []) (B.getD k0 []) e).2=false from hno] at cf
   generalize D8 A B e (i0*B.length+k0)=W at *
   generalize (Zx (A.getD i0 []) (B.getD k0 []) e).1=d at *
   refine LV false (str:=[]) (hcs:=[]) ht mixed (by kernel_rfl) (by kernel_rfl) rfl (fun p hp=>?_) (fun o ho=>((Uv e _).2 o ho).1) (fun l r hr=>?_)
   ·have hp':p=16∨p=17:=by simpa using hp
    rcases hp' with rfl | rfl <;> exact Nat.le_of_ble_eq_true rfl
   show Run (Tt _ _ _ _ _ _ _ _) _ ⟨13,[16,17],[.any,.any,.any,.any,.any,.ref 0 0 0,.ref 1 0 0,.ref 2 0 0,.ref 3 0 0,.any,.any,.any,.any],[(17,Xp (B.getD k0 [])),(16,Xp (A.getD i0 [])),(15,.fn 260 [Zm A,Zm B])],Gp e W⟩
   refine X1 1000 ?_
   simp only [Ih,OR,↓X2,wA,seval,wE]
   refine Tu hr ?_
   refine X1 1000 ?_
   simp only [↓X2,wA,seval,wE]
   refine X0 cf rfl ?_
   simp only [↓X2,wA,seval,wE]
   exact tu rfl
 ·rcases hN with ⟨rfl,rfl,hall⟩ | ⟨rfl,i0,k0,rfl,hi0,hk0,hno,hyes⟩
  ·show Run _ _ ⟨13,[16,17],[.any,.any,.any,.any,.any,.ref 0 0 0,.ref 1 0 0,.ref 2 0 0,.ref 3 0 0,.any,.any,.any,.any],[(15,.fn 260 [Zm A,Zm B])],Gp e (D8 A B e (A.length*B.length))⟩
   generalize D8 A B e (A.length*B.length)=W
   show Run _ (_ :: _) _
   refine X1 1000 ?_
   simp only [Ih,↓X2,wA,seval,wE]
   exact QO (x:=.osl 4 W.length 8 0 W.length) (y:=.bool true) rfl (by simp only [QA,↓X2,wA,seval,wE]) (by simp only [QA,↓X2,wA,seval,wE]) (Xr ZF (Gi _)) ((X3 _).sees _)
  ·show Run _ _ ⟨13,[16,17],[.any,.any,.any,.any,.any,.ref 0 0 0,.ref 1 0 0,.ref 2 0 0,.ref 3 0 0,.any,.any,.any,.any],[(15,.fn 260 [Zm A,Zm B])],Wc e (D8 A B e (i0*B.length+k0))⟩
   generalize D8 A B e (i0*B.length+k0)=W
   show Run _ (_ :: _) _
   refine X1 1000 ?_
   simp only [OR,↓X2,wA,seval,wE]
   exact QO (x:=.sl 0 0 (fun _=>.any) false) (y:=.bool false) rfl (by simp only [QA,↓X2,wA,seval,wE]) (by simp only [QA,↓X2,wA,seval,wE]) (Xr ZF (Gi _)) ((X3 _).sees _)
def tM:Go.Shelf.Ren:=⟨fun _=>290,fun t=>if t=23 then 3 else t,fun x=>x⟩
theorem rT:SlLaysE.n45 Tryz.prog tM where
 mixed:=mixed
 f45:=⟨Tryz.f290.name,rfl,Tryz.func290.trans (congrArg some rfl)⟩
 t0:=Tryz.underlying0
 a0:=Tryz.isAgg0
 z0:=Tryz.sizeOf0
 v0:=Tryz.zeroValue0
 t3:=Tryz.underlying3
 a3:=Tryz.isAgg3
 z3:=Tryz.sizeOf3
 v3:=Tryz.zeroValue3
 t4:=Tryz.underlying4
 a4:=Tryz.isAgg4
 z4:=Tryz.sizeOf4
 v4:=Tryz.zeroValue4
 t22:=Tryz.underlying22
 a22:=Tryz.isAgg22
 z22:=Tryz.sizeOf22
 v22:=Tryz.zeroValue22
 a23:=Tryz.isAgg3
 z23:=Tryz.sizeOf3
def Mg (x:Int):Value:=.int .i64 x
theorem PK (w:World) (b:Nat) (d:Array Int) (cs:Array Value) (el:TypeId) (fr:Nat×Nat) (h:w.heap[b]?=some (.cells cs el fr)):(Go.Sort.putRow Mg w b 0 d).heap[b]?=some (.cells (Go.Sort.putCells Mg 0 d cs) el fr):=by
 show (w.heap.modify b _)[b]?=_
 rw [Array.getElem?_modify,if_pos rfl,h]
 rfl
theorem Fv (w:World) (b b':Nat) (d:Array Int) (h:b'≠b):(Go.Sort.putRow Mg w b 0 d).heap[b']?=w.heap[b']?:=by
 show (w.heap.modify b _)[b']?=_
 rw [Array.getElem?_modify,if_neg (Ne.symm h)]
theorem My (o:AO) (R:List Int) (v i:Nat) (hi:i<R.length):HCall Tryz.prog 290 [.osl 1 v 1 0 R.length,I i,I ((i+1:Nat):Int)] [o,.row v R.length (Q1 I 0 R)] (.osl 1 (v+1) 1 0 (R.length - 1)) [o,.row (v+1) (R.length - 1) (Q1 I 0 (R.eraseIdx i))]:=by
 refine ⟨Tryz.call290,?_⟩
 rintro c vs hH hr ⟨hv1,hv2⟩
 have ho:c.H[1]?=some (.row v R.length (Q1 I 0 R)):=by rw [hH]; rfl
 have hinf:inf c.H 1=some v:=by simp [inf,ho,AO.info]
 have live:¬ stale c.H 1 v:=by
  rintro (⟨v'',h1,hlt⟩ | hd)
  ·rw [hinf] at h1; cases h1; omega
  ·simp [inf,hd,AO.info] at hinf
 obtain ⟨l,hl⟩:∃ l,vs=l:=⟨_,rfl⟩
 have hx:=hv2 0 (by simp)
 have hy:=hv2 1 (by simp)
 have hz:=hv2 2 (by simp)
 have e3:vs=#[vs.getD 0 undef,vs.getD 1 undef,vs.getD 2 undef]:=by
  have h3:vs.size=3:=hv1
  apply Array.ext
  ·simp [h3]
  ·intro j h1 h2
   match j,h1 with
   | 0,_=>simp [Array.getD,h3]
   | 1,_=>simp [Array.getD,h3]
   | 2,_=>simp [Array.getD,h3]
   | j+3,h=>omega
 rw [e3]
 generalize vs.getD 0 undef=x at *
 generalize vs.getD 1 undef=y at *
 generalize vs.getD 2 undef=z at *
 replace hx:Rep c x (.osl 1 v 1 0 R.length):=hx
 replace hy:Rep c y (I i):=hy
 replace hz:Rep c z (I ((i+1:Nat):Int)):=hz
 cases hy
 cases hz
 generalize hn:R.length=n at hx
 cases hx with
 | oslz _ _ _ _ a h=>omega
 | oslOld _ _ _ _ _ a cap h hs=>exact absurd hs live
 | oslzOld _ _ _ _ a hs=>exact absurd hs live
 | osl _ _ _ _ _ cap b sz h1 hg hcn hcap hmx =>
  subst hn
  rcases hr.row 1 _ _ _ ho with ⟨hg',_⟩ | ⟨b',sz',cs,el,hg',hh,hcs,hks,hnS,hcr⟩
  ·rw [hg'] at hg; cases hg
  rw [hg'] at hg
  cases hg
  have hcell:∀ j,j<R.length→cs.getD j undef=Mg (R.getD j 0):=fun j hj=>by
   have:=hcr j hj
   rw [show Q1 I 0 R j=I (R.getD j 0) from rfl] at this
   generalize cs.getD j undef=q at this ⊢
   cases this; rfl
  have hget:∀ j,j<R.length→R.toArray[j]! = R.getD j 0:=fun j hj=>by
   rw [getElem!_pos R.toArray j (by simpa using hj)]
   simp [List.getD_eq_getElem?_getD,hj]
  have hold:Go.Sort.Holds Mg c.w b 0 R.toArray:=fun j hj=>by
   have hj':j<R.length:=by simpa using hj
   refine ⟨?_,?_⟩
   ·rw [ZR hh (m:=R.length) (by omega) j hj',hcell j hj',hget j hj']
   ·unfold World.frozen?
    rw [hh]
    simp
  obtain ⟨_,i0,z0,hi0,hz1,_⟩:=Ze nH
  have key:=AnyE.slices_Delete rT Mg (fun _=>rfl) 0 (fun w=>Tryz.zeroValue3 w) i0 hi0 hz1 b 0 cap i (i+1) R.toArray c.w hold (by simpa using hcn) hmx (by omega) (by rw [List.size_toArray]; omega)
  rw [List.size_toArray] at key
  refine key.mono ?_
  rintro e w' ⟨rfl,q,rfl⟩
  obtain ⟨d,hd⟩:∃ d,d=(R.toArray.toList.take i ++ R.toArray.toList.drop (i+1) ++ List.replicate (i+1 - i) (0:Int)).toArray:=⟨_,rfl⟩
  rw [← hd]
  have hds:d.size=R.length:=by rw [hd]; simp; omega
  have hdj:∀ j,j<R.length - 1→d[j]! = (R.eraseIdx i).getD j 0:=fun j hj=>by
   rw [getElem!_pos d j (by omega)]
   subst hd
   simp only [List.getElem_toArray,List.getD_eq_getElem?_getD,List.getElem?_eraseIdx]
   by_cases h:j<i
   ·rw [List.getElem_append_left (by simp; omega),List.getElem_append_left (by simp; omega)]
    simp [h,show j<R.length by omega]
   ·rw [List.getElem_append_left (by simp; omega),List.getElem_append_right (by simp; omega)]
    have e1:i+1+(j - min i R.length)=j+1:=by omega
    simp [h,e1,show j+1<R.length by omega]
  have hcs2:(Go.Sort.putCells Mg 0 d cs).size=cs.size:=by simp [Go.Sort.putCells]
  have hset:(c.H.set 1 (.row (v+1) (R.length - 1) (Q1 I 0 (R.eraseIdx i))))[1]?=some (.row (v+1) (R.length - 1) (Q1 I 0 (R.eraseIdx i))):=by rw [hH]; rfl
  have hoth:∀ k,k≠1→(c.H.set 1 (.row (v+1) (R.length - 1) (Q1 I 0 (R.eraseIdx i))))[k]?=c.H[k]?:=fun k hk=>by simp [Ne.symm hk]
  have hinf':inf (c.H.set 1 (.row (v+1) (R.length - 1) (Q1 I 0 (R.eraseIdx i)))) 1=some (v+1):=by simp [inf,hset,AO.info]
  obtain ⟨g1,g2⟩:=A6 (c:=c) (c':=⟨Go.Sort.putRow Mg (Go.Sort.ahead c.w q) b 0 d,c.S,c.γ,c.H.set 1 (.row (v+1) (R.length - 1) (Q1 I 0 (R.eraseIdx i)))⟩) hr
   (id:=1) (ver:=v+1) (n:=R.length - 1) (b:=b) (sz:=sz) hset hoth rfl hg' (fun _ _=>rfl) (PK (Go.Sort.ahead c.w q) b d cs el (0,0) hh) (hcs2.trans hcs) (by omega)
   (fun b' hb' _=>Fv (Go.Sort.ahead c.w q) b b' d hb') (by simp) rfl rfl rfl (.inr ⟨_,_,ho,rfl,hg'⟩) (.inr (.inr ⟨v,hinf,.inl (by omega)⟩)) (fun j hj=>by
    have e1:(Go.Sort.putCells Mg 0 d cs).getD j undef=Mg d[j]!:=by
     have h1:j<cs.size:=by omega
     have h2:j<d.size:=by omega
     simp [Go.Sort.putCells,Array.getD_eq_getD_getElem?,h1,h2]
    rw [e1,hdj j hj]
    exact .int _ _)
  rw [hH] at hinf' g1 g2
  rw [show R.length - (i+1 - i)=R.length - 1 by omega]
  exact ⟨_,_,_,rfl,.osl 1 (v+1) 1 0 (R.length - 1) cap b sz hinf' hg' (by omega) hcap hmx,g1,g2⟩
def zs (R:List Nat):List Int:=R.map fun n:Nat=>(n:Int)
theorem Xm (R:List Nat):(zs R).length=R.length:=by unfold zs; rw [List.length_map]
theorem B7 (R:List Nat) (j:Nat):(zs R).getD j 0=((R.getD j 0:Nat):Int):=by
 unfold zs
 rw [List.getD_eq_getElem?_getD,List.getElem?_map,List.getD_eq_getElem?_getD]
 cases R[j]? <;> rfl
theorem Sr (R:List Nat) (i:Nat):(zs R).eraseIdx i=zs (R.eraseIdx i):=by
 unfold zs
 apply List.ext_getElem?
 intro j
 simp only [List.getElem?_eraseIdx,List.getElem?_map]
 split <;> rfl
def j9 (L:List V2) (R:List Nat):AV:=.ptr 2 (Xq [Xp L,X8 (zs R)]) 0
theorem XX (L:List V2) (R:List Nat):j9 L R=.ptr 2 (Xq [Xp L,X8 (zs R)]) 0:=nrfl rfl
theorem AW (L:List V2) (R:List Nat):Settled (j9 L R):=Ji fun j hj=>by
 match j,hj with
 | 0,_=>exact Xd L
 | 1,_=>exact X7 _
 | j+2,h=>omega
def qw (L:List V2) (R:List Nat):AV:=.ptr 1 (Xq [j9 L R]) 0
theorem Ok (L:List V2) (R:List Nat):qw L R=.ptr 1 (Xq [j9 L R]) 0:=nrfl rfl
theorem DC (L:List V2) (R:List Nat):Settled (qw L R):=Ji fun j hj=>by
 obtain rfl:j=0:=by omega
 exact AW L R
def nr (R:List Nat) (m:Nat):Nat:=R.getD (m % R.length) 0
theorem o7 (R:List Nat) (m:Nat):(zs R).getD (m % R.length) 0=((nr R m:Nat):Int):=B7 R _
structure Rok (L:List V2) (R:List Nat):Prop where
 pos:0<R.length
 len:R.length<1000000
 mem:∀ j,R.getD j 0<L.length
 lenL:L.length<1000000
theorem Ip (L:List V2) (R:List Nat) (k:Int) (m:Nat) (h:Rok L R) (hk:k+R.length=m) (hm:m<10000000) (h1:-10≤k) (h2:k<10000000):Fn Tryz.prog 295 [I k,qw L R] (I (nr R m)):=by
 obtain ⟨h0,hn,hmem,hL⟩:=h
 refine Fq Tryz.call295 Tryz.func295 4 [] [] [] (by simp [DC,X9]) (X1 1000 ?_)
 have w1:IntKind.i64.wrap (k+R.length)=(m:Int):=by rw [IntKind.wrap_i64]; omega
 have hmod:(m:Int).tmod R.length=((m % R.length:Nat):Int):=rfl
 have hlt:m % R.length<R.length:=Nat.mod_lt _ h0
 have f1:(((m % R.length:Nat):Int)<R.length)=True:=eq_true (by omega)
 have f2:(m % R.length<R.length)=True:=eq_true hlt
 have f3:(m % R.length+1≤R.length)=True:=eq_true (by omega)
 have f6:((R.length:Int)=0)=False:=eq_false (by omega)
 have f6':(R.length=0)=False:=eq_false (by omega)
 have w2:IntKind.i64.wrap (((m % R.length:Nat):Int))=((m % R.length:Nat):Int):=by rw [IntKind.wrap_i64]; omega
 have v1:=o7 R m
 simp only [AS.start,Ok,XX,X4,Xm,w1,w2,hmod,f1,f2,f3,f6,f6',v1,Int.toNat_natCast,↓X2,wA,seval,wE]
 exact Xs rfl rfl (X9 _) rfl
theorem Gr (L:List V2) (R:List Nat) (p:Nat) (h:Rok L R) (hp:p<1000000):Fn Tryz.prog 289 [j9 L R,I p] (.tup [I (nr R (p+R.length - 1)),I (nr R (p+R.length+1))]):=by
 have c1:=Ip L R ((p:Int) - 1) (p+R.length - 1) h (by have:=h.pos; omega) (by have:=h.len; omega) (by omega) (by omega)
 have c2:=Ip L R ((p:Int)+1) (p+R.length+1) h (by omega) (by have:=h.len; omega) (by omega) (by omega)
 have w1:IntKind.i64.wrap ((p:Int) - 1)=(p:Int) - 1:=by rw [IntKind.wrap_i64]; omega
 have w2:IntKind.i64.wrap ((p:Int)+1)=(p:Int)+1:=by rw [IntKind.wrap_i64]; omega
 have hl:SeesL [.row 0 1 (Xq [.ptr 2 (Xq [Xp L,X8 (zs R)]) 0])] ([.ref 0 0 0]:List AV) [qw L R]:=⟨AU (.inl rfl) (by omega) (fun j hj=>by
  obtain rfl:j=0:=by omega
  exact (AW L R).sees _),trivial⟩
 refine Fq Tryz.call289 Tryz.func289 7 [] [] [] (by simp [AW,X9]) (X1 1000 ?_)
 simp only [AS.start,XX,w1,w2,↓X2,wA,seval,wE]
 refine JP c1 rfl ⟨QC (X9 _) rfl,hl⟩ (Cf _ _) ?_
 simp only [w1,w2,↓X2,wA,seval,wE]
 refine JP c2 rfl ⟨QC (X9 _) rfl,hl⟩ (Cf _ _) ?_
 simp only [w1,w2,↓X2,wA,seval,wE]
 exact RE rfl rfl rfl (X9 _) (X9 _) rfl rfl
def HH (L:List V2) (R:List Nat) (p:Nat):Int:=Jd (L.getD (nr R (p+R.length - 1)) v0) (L.getD (R.getD p 0) v0) (L.getD (nr R (p+R.length+1)) v0)
theorem Vv (L:List V2) (R:List Nat) (p k:Nat) (h:Rok L R) (hp:p<R.length) (hs:XV L k) (hk:k≤10000):Fn Tryz.prog 288 [j9 L R,I p] (I (HH L R p)):=by
 have c1:=Gr L R p h (by have:=h.len; omega)
 have c2:=Zi (L.getD (nr R (p+R.length - 1)) v0) (L.getD (R.getD p 0) v0) (L.getD (nr R (p+R.length+1)) v0) (by have:=hs (nr R (p+R.length - 1)); unfold vs; omega) (by have:=hs (R.getD p 0); unfold vs; omega) (by have:=hs (nr R (p+R.length+1)); unfold vs; omega)
 obtain ⟨h0,hn,hmem,hL⟩:=h
 have m1:=hmem ((p+R.length - 1) % R.length)
 have m2:=hmem ((p+R.length+1) % R.length)
 have m3:=hmem p
 change nr R (p+R.length - 1)<L.length at m1
 change nr R (p+R.length+1)<L.length at m2
 unfold HH
 generalize nr R (p+R.length - 1)=a at *
 generalize nr R (p+R.length+1)=c at *
 have v2:=B7 R p
 generalize R.getD p 0=b at *
 have f1:((p:Int)<R.length)=True:=eq_true (by omega)
 have f2:(p<R.length)=True:=eq_true hp
 have f3:(p+1≤R.length)=True:=eq_true (by omega)
 have a1:((a:Int)<L.length)=True:=eq_true (by omega)
 have a2:(a<L.length)=True:=eq_true m1
 have a3:(a*8+8≤L.length*8)=True:=eq_true (by omega)
 have b1:((b:Int)<L.length)=True:=eq_true (by omega)
 have b2:(b<L.length)=True:=eq_true m3
 have b3:(b*8+8≤L.length*8)=True:=eq_true (by omega)
 have e1:((c:Int)<L.length)=True:=eq_true (by omega)
 have e2:(c<L.length)=True:=eq_true m2
 have e3:(c*8+8≤L.length*8)=True:=eq_true (by omega)
 have va:=vF L a
 have vb:=vF L b
 have vc:=vF L c
 refine Fq Tryz.call288 Tryz.func288 7 [] [] [] (by simp [AW,X9]) (X1 1000 ?_)
 simp only [AS.start,XX,X5,X4,↓X2,wA,seval,wE]
 refine X0 c1 rfl ?_
 simp only [XX,X5,X4,Xm,f1,f2,f3,a1,a2,a3,b1,b2,b3,e1,e2,e3,va,vb,vc,v2,Int.toNat_natCast,↓X2,wA,seval,wE]
 refine X0 c2 rfl ?_
 simp only [↓X2,wA,seval,wE]
 exact Xs rfl rfl (X9 _) rfl
theorem fj (s:List Int) (v:Int) (hl:s.length<1048576):Fn Tryz.prog 297 [X8 s,I v] (I (HF (fun x=>decide (v=x)) s)):=by
 refine Fq Tryz.call297 Tryz.func297 6 [6,7,8] [] [] (by simp [X7,X9]) (X1 1000 ?_)
 simp only [AS.start,X4,↓X2,wA,seval,wE]
 refine Xe (fun j:Nat=>⟨6,[6,7,8],[X8 s,I v,.any,.any,.any,.any],[(6,X8 s),(7,I s.length),(8,I j)],[]⟩) (fun j=>j≤s.length∧∀ i,i<j→(fun x=>decide (v=x)) (s.getD i 0)=false) (fun j=>s.length - j) 0 ⟨by omega,by omega⟩
  (Xa rfl (by simp [Xh,X4,I]) (by simp [Xi,Xw,X4,I]) rfl) ?_
 rintro j ⟨hj,hno⟩ next
 have w1:=wj j (by omega)
 refine X1 1000 ?_
 simp only [X4,w1,↓X2,wA,seval,wE]
 refine ⟨fun h=>⟨h,h,?_⟩,fun h=>Xs (v:=I (-1)) rfl rfl (X9 _) ?_⟩
 ·refine ⟨fun ht=>Xs (v:=I j) rfl rfl (X9 _) ?_,fun hf=>next (j+1) _ ⟨by omega,fun i hi=>?_⟩ (by omega) (Xa rfl ?_ ?_ rfl)⟩
  ·rw [Fw h (decide_eq_true ht) hno]
  ·by_cases e:i=j
   ·rw [e]; exact decide_eq_false hf
   ·exact hno i (by omega)
  ·simp [Xh,X4,I]
  ·simp [Xi,Xw,X4,I]
 ·rw [GC fun i hi=>hno i (by omega)]
def TQ (R:List Nat) (x:Int):Nat:=(HF (fun y=>decide (x=y)) (zs R)).toNat
theorem O9 {R:List Nat} (hd:R.Nodup) {p:Nat} (hp:p<R.length):HF (fun y=>decide (((R.getD p 0:Nat):Int)=y)) (zs R)=p:=by
 have at_:∀ i (hi:i<R.length),R.getD i 0=R[i]:=fun i hi=>by rw [List.getD_eq_getElem?_getD,List.getElem?_eq_getElem hi]; rfl
 refine Fw (by rw [Xm]; exact hp) (by rw [B7]; simp) fun i hi=>?_
 rw [B7]
 refine decide_eq_false fun e=>?_
 rw [at_ i (by omega),at_ p hp] at e
 have e2:R[p]=R[i]:=by omega
 have:=(List.getElem_inj (i:=p) (j:=i) (h₀:=hp) (h₁:=by omega) hd).1 e2
 omega
theorem WG (L:List V2) (R:List Nat) (x:Int) (k:Nat) (h:Rok L R) (hd:R.Nodup) (hx:x∈zs R) (hs:XV L k) (hk:k≤10000):Fn Tryz.prog 296 [I x,qw L R] (.bool (decide (HH L R (TQ R x)=0))):=by
 obtain ⟨p,hp,rfl⟩:∃ p,p<R.length∧((R.getD p 0:Nat):Int)=x:=by
  obtain ⟨i,hi,rfl⟩:=List.getElem_of_mem hx
  refine ⟨i,by rw [Xm] at hi; exact hi,?_⟩
  rw [← B7,List.getD_eq_getElem?_getD,List.getElem?_eq_getElem hi]; rfl
 have c1:=fj (zs R) ((R.getD p 0:Nat):Int) (by rw [Xm]; have:=h.len; omega)
 have e:TQ R ((R.getD p 0:Nat):Int)=p:=by unfold TQ; rw [O9 hd hp]; rfl
 rw [O9 hd hp] at c1
 rw [e]
 have c2:=Vv L R p k h hp hs hk
 refine Fq Tryz.call296 Tryz.func296 4 [] [] [] (by simp [DC,X9]) (X1 1000 ?_)
 simp only [AS.start,Ok,XX,X4,Xm,↓X2,wA,seval,wE]
 refine X0 c1 (by simp only [X4,Xm]; rfl) ?_
 simp only [Ok,XX,X4,Xm,↓X2,wA,seval,wE]
 refine X0 c2 (by simp only [XX,X4,Xm]; rfl) ?_
 simp only [↓X2,wA,seval,wE]
 exact Xs rfl rfl (X3 _) rfl
def KK (L:List V2) (R:List Nat):Nat:=(List.range R.length).findIdx fun p=>decide (HH L R p=0)
theorem IR (L:List V2) (R:List Nat):KK L R≤R.length:=by
 have:=List.findIdx_le_length (xs:=List.range R.length) (p:=fun p=>decide (HH L R p=0))
 rw [List.length_range] at this
 exact this
theorem MH {L:List V2} {R:List Nat} (h:KK L R<R.length):HH L R (KK L R)=0:=by
 have:=List.findIdx_getElem (xs:=List.range R.length) (p:=fun p=>decide (HH L R p=0)) (w:=by rw [List.length_range]; exact h)
 rw [List.getElem_range] at this
 exact of_decide_eq_true this
theorem IU {L:List V2} {R:List Nat} {p:Nat} (h:p<KK L R):HH L R p≠0:=by
 have h2:=IR L R
 have:=List.not_of_lt_findIdx (xs:=List.range R.length) (p:=fun p=>decide (HH L R p=0)) (i:=p) h
 rw [List.getElem_range] at this
 exact of_decide_eq_false this
def Zd (L:List V2):Nat→List Nat→List Nat
 | 0,R=>R
 | f+1,R=>if 3<R.length∧KK L R<R.length then Zd L f (R.eraseIdx (KK L R)) else R
theorem kD {L:List V2} {R:List Nat} (hd:R.Nodup):HF (fun x=>decide (HH L R (TQ R x)=0)) (zs R)=if KK L R<R.length then ((KK L R:Nat):Int) else -1:=by
 have at_:∀ p,p<R.length→TQ R ((zs R).getD p 0)=p:=fun p hp=>by unfold TQ; rw [B7,O9 hd hp]; rfl
 split
 ·rename_i h
  refine Fw (by rw [Xm]; exact h) ?_ fun i hi=>?_
  ·rw [at_ _ h]; exact decide_eq_true (MH h)
  ·rw [at_ _ (by omega)]; exact decide_eq_false (IU hi)
 ·rename_i h
  refine GC fun i hi=>?_
  rw [Xm] at hi
  have:=IR L R
  rw [at_ _ hi]; exact decide_eq_false (IU (by omega))
def Ls (L:List V2) (N:Nat) (R:List Nat):List AO:=[.row 0 2 (Xq [Xp L,.osl 1 (N - R.length) 1 0 R.length]),.row (N - R.length) R.length (Q1 I 0 (zs R))]
theorem J6 (L:List V2) (N:Nat) (R:List Nat):Ls L N R=[.row 0 2 (Xq [Xp L,.osl 1 (N - R.length) 1 0 R.length]),.row (N - R.length) R.length (Q1 I 0 (zs R))]:=nrfl rfl
theorem Kr (L:List V2) (N:Nat) (R:List Nat):VK 2 (Ls L N R):=by
 refine ⟨rfl,fun o ho=>?_⟩
 have bL:Jj 2 (Xp L)=True:=eq_true (X6 (Xd L))
 simp only [Ls,List.mem_cons,List.not_mem_nil,or_false] at ho
 rcases ho with rfl | rfl
 ·exact ⟨by simp [Xx,bL],by simp,by simp⟩
 ·exact ⟨fun j _=>X6 (X9 _),by simp,by simp⟩
theorem I4 {L:List V2} {N:Nat} {R:List Nat} {rest:List AO}:JJ (Ls L N R ++ rest) (.ref 0 0 0) (j9 L R):=AU (.inl rfl) (by omega) fun j hj=>by
 match j,hj with
 | 0,_=>exact (Xd L).sees _
 | 1,_ =>
  show JJ _ (.osl 1 (N - R.length) 1 0 R.length) (X8 (zs R))
  have:=Ef (l:=zs R) (H:=Ls L N R ++ rest) (id:=1) (ver:=N - R.length) (n:=R.length) rfl (by rw [Xm]; exact Nat.le_refl _)
  rw [Xm] at this
  exact this
 | j+2,h=>omega
theorem RN {L:List V2} {N:Nat} {R:List Nat} {rest:List AO}:JJ (Ls L N R ++ rest) (.osl 1 (N - R.length) 1 0 R.length) (X8 (zs R)):=by
 have:=Ef (l:=zs R) (H:=Ls L N R ++ rest) (id:=1) (ver:=N - R.length) (n:=R.length) rfl (by rw [Xm]; exact Nat.le_refl _)
 rw [Xm] at this
 exact this
theorem sn {P:Program} {fn:Func} {str hcs:List Nat} {m:Nat} {H:List AO} {s:AS} (hr:fn.results=#[]) (hH:s.h.take m=H):RetOk (HD P fn str hcs m (.tup []) H) s :=
 ⟨.tup [],by show ZX P fn s=_; simp [ZX,hr,Jl,B5],rfl,hH⟩
theorem qr {P:Program} {fn:Func} {str hcs:List Nat} {m:Nat} {H:List AO} {s:AS} (hr:fn.results=#[]) (hH:s.h.take m=H):RetE (HD P fn str hcs m (.tup []) H) s :=
 ⟨.tup [],by show ZX P fn s=_; simp [ZX,hr,Jl,B5],rfl,hH⟩
theorem Bl {L:List V2} {R:List Nat} {q:Nat} (h:Rok L R) (h3:3<R.length) (hq:q<R.length):Rok L (R.eraseIdx q):=by
 obtain ⟨h0,hn,hmem,hL⟩:=h
 have hlen:(R.eraseIdx q).length=R.length - 1:=by rw [List.length_eraseIdx,if_pos hq]
 refine ⟨by omega,by omega,fun j=>?_,hL⟩
 rw [List.getD_eq_getElem?_getD,List.getElem?_eraseIdx]
 split
 ·rw [← List.getD_eq_getElem?_getD]; exact hmem j
 ·rw [← List.getD_eq_getElem?_getD]; exact hmem (j+1)
theorem di (L:List V2) (N:Nat) (R0:List Nat) (k:Nat) (h:Rok L R0) (hd:R0.Nodup) (hN:R0.length≤N) (hs:XV L k) (hk:k≤10000):HCall Tryz.prog 291 [.ref 0 0 0] (Ls L N R0) (.tup []) (Ls L N (Zd L R0.length R0)):=by
 have bL:Jj 3 (Xp L)=True:=eq_true (X6 (Xd L))
 refine HCall.introC (fn:=Tryz.f291) Tryz.call291 Tryz.func291 rfl mixed 3 [] [4,50000001,5004] [4] (by kernel_rfl) (Nat.le_of_ble_eq_true rfl) (X6 (RV (by simp))) (fun o ho=>((Kr _ _ _).2 o ho).1) (X1 1000 ?_)
 simp only [AS.start,J6,↓X2,wA,seval,wE]
 refine Xe (fun R:List Nat=>⟨3,[],[.any,.ref 2 0 0,.any],[],Ls L N R ++ [.con 0 1 (Xq [.ref 0 0 0])]⟩) (fun R=>Rok L R∧R.Nodup∧R.length≤N∧Zd L R.length R=Zd L R0.length R0) (fun R=>R.length) R0 ⟨h,hd,hN,rfl⟩
  (Sub.trans (Qp 2 rfl) (Xa rfl (by simp [Xh]) (by simp [Xi]) (by simp [Ls]))) ?_
 rintro R ⟨hR,hdR,hNR,hcl⟩ next
 have hR':=hR
 obtain ⟨h0,hn,hmem,hL⟩:=hR'
 by_cases h3:3<R.length
 rotate_left
 ·have e:Zd L R.length R=R:=by
   cases hl:R.length with
   | zero=>rfl
   | succ n=>unfold Zd; rw [if_neg (by omega)]
  rw [e] at hcl
  have f1:((3:Int)<R.length)=False:=eq_false (by omega)
  refine X1 1000 ?_
  simp only [J6,List.cons_append,List.nil_append,f1,↓X2,wA,seval,wE]
  rw [← hcl]
  exact qr rfl rfl
 have f1:((3:Int)<R.length)=True:=eq_true (by omega)
 have ci:=MM (zs R) 296 [qw L R] (fun x=>decide (HH L R (TQ R x)=0)) (by rw [Xm]; omega) (fun a ha=>by rw [List.mem_singleton.1 ha]; exact DC L R) (fun x hx=>WG L R x k hR hdR hx hs hk)
 rw [kD hdR] at ci
 have sB:JJ (Ls L N R ++ [.con 0 1 (Xq [.ref 0 0 0])]) (.ref 2 0 0) (qw L R):=AU (.inr rfl) (by omega) fun j hj=>by
  obtain rfl:j=0:=by omega
  exact I4
 by_cases hq:KK L R<R.length
 rotate_left
 ·have e:Zd L R.length R=R:=by
   cases hl:R.length with
   | zero=>rfl
   | succ n=>unfold Zd; rw [if_neg (by omega)]
  rw [e] at hcl
  rw [if_neg hq] at ci
  refine X1 1000 ?_
  simp only [J6,List.cons_append,List.nil_append,f1,↓X2,wA,seval,wE]
  refine JP ci rfl ⟨RN,Ee ⟨sB,trivial⟩,trivial⟩ (Cf _ _) ?_
  simp only [show ((-1:Int)<0)=True from eq_true (by omega),↓X2,wA,seval,wE]
  rw [← hcl]
  exact sn rfl rfl
 rw [if_pos hq] at ci
 have hlq:∀ q,q<R.length→(R.eraseIdx q).length=R.length - 1:=fun q hq=>by rw [List.length_eraseIdx,if_pos hq]
 have ecl:Zd L R.length R=Zd L (R.eraseIdx (KK L R)).length (R.eraseIdx (KK L R)):=by
  rw [hlq _ hq]
  cases hl:R.length with
  | zero=>omega
  | succ n =>
   show (if 3<R.length∧KK L R<R.length then Zd L n (R.eraseIdx (KK L R)) else R)=_
   rw [if_pos ⟨h3,hq⟩]; rfl
 rw [ecl] at hcl
 generalize KK L R=q at *
 have hl:=hlq q hq
 have f2:((q:Int)<0)=False:=eq_false (by omega)
 have w1:=wj q (by omega)
 have cd:=My (.row 0 2 (Xq [Xp L,.osl 1 (N - R.length) 1 0 R.length])) (zs R) (N - R.length) q (by rw [Xm]; exact hq)
 rw [Xm,Sr] at cd
 refine X1 1000 ?_
 simp only [J6,List.cons_append,List.nil_append,f1,↓X2,wA,seval,wE]
 refine JP ci rfl ⟨RN,Ee ⟨sB,trivial⟩,trivial⟩ (Cf _ _) ?_
 simp only [w1,f2,↓X2,wA,seval,wE]
 have o2:∀ o∈[AO.row 0 2 (Xq [Xp L,.osl 1 (N - R.length) 1 0 R.length]),.row (N - R.length+1) (R.length - 1) (Q1 I 0 (zs (R.eraseIdx q)))],o≠.unborn∧∀ v n f,o≠.con v n f:=fun o ho=>by
  simp only [List.mem_cons,List.not_mem_nil,or_false] at ho
  rcases ho with rfl | rfl <;> exact ⟨by simp,by simp⟩
 have bA:∀ a∈[AV.osl 1 (N - R.length) 1 0 R.length,I q,I ((q+1:Nat):Int)],Jj 2 a:=fun a ha=>by
  simp only [List.mem_cons,List.not_mem_nil,or_false] at ha
  rcases ha with rfl | rfl | rfl
  ·exact NQ (by omega)
  ·exact X6 (X9 _)
  ·exact X6 (X9 _)
 refine Ah (H1:=Ls L N R) (H1':=[AO.row 0 2 (Xq [Xp L,.osl 1 (N - R.length) 1 0 R.length]),.row (N - R.length+1) (R.length - 1) (Q1 I 0 (zs (R.eraseIdx q)))]) (rest:=[.con 0 1 (Xq [.ref 0 0 0])]) rfl cd rfl rfl bA (fun o ho=>((Kr L N R).2 o ho).1) (fun o ho=>((Kr L N R).2 o ho).2.1) (fun o ho=>(o2 o ho).1) (Jo (fun o ho=>((Kr L N R).2 o ho).2.2) (fun o ho=>(o2 o ho).2)) (Q9 _) ?_
 simp only [List.cons_append,List.nil_append,↓X2,wA,seval,wE]
 exact next (R.eraseIdx q) _ ⟨Bl hR h3 hq,hdR.eraseIdx q,by omega,hcl⟩ (by omega) (Xa rfl (by simp [Xh]) (by simp [Xi]) (by rw [J6,hl,show N - (R.length - 1)=N - R.length+1 by omega]; rfl))
def j8 (a b c p:V2):Prop:=0≤Jd a b p∧0≤Jd b c p∧0≤Jd c a p
def Bu (L:List V2) (a b c k:Nat):Prop:=k=a∨k=c∨k=b∨¬ j8 (L.getD a v0) (L.getD b v0) (L.getD c v0) (L.getD k v0)
def BN (L:List V2) (R:List Nat) (p:Nat):Bool:=decide (0<HH L R p∧∀ j,j<R.length→Bu L (nr R (p+R.length - 1)) (R.getD p 0) (nr R (p+R.length+1)) (R.getD j 0))
def HK (A B C:V2):AV:=.sl 3 24 (Xq [.bool (decide (A.x.num<0)),X8 (Xb A.x.num.natAbs),.bool false,X8 (Xb (qd A.x)),.bool (decide (A.y.num<0)),X8 (Xb A.y.num.natAbs),.bool false,X8 (Xb (qd A.y)),.bool (decide (B.x.num<0)),X8 (Xb B.x.num.natAbs),.bool false,X8 (Xb (qd B.x)),.bool (decide (B.y.num<0)),X8 (Xb B.y.num.natAbs),.bool false,X8 (Xb (qd B.y)),.bool (decide (C.x.num<0)),X8 (Xb C.x.num.natAbs),.bool false,X8 (Xb (qd C.x)),.bool (decide (C.y.num<0)),X8 (Xb C.y.num.natAbs),.bool false,X8 (Xb (qd C.y))]) true
theorem XR (A B C:V2):HK A B C=.sl 3 24 (Xq [.bool (decide (A.x.num<0)),X8 (Xb A.x.num.natAbs),.bool false,X8 (Xb (qd A.x)),.bool (decide (A.y.num<0)),X8 (Xb A.y.num.natAbs),.bool false,X8 (Xb (qd A.y)),.bool (decide (B.x.num<0)),X8 (Xb B.x.num.natAbs),.bool false,X8 (Xb (qd B.x)),.bool (decide (B.y.num<0)),X8 (Xb B.y.num.natAbs),.bool false,X8 (Xb (qd B.y)),.bool (decide (C.x.num<0)),X8 (Xb C.x.num.natAbs),.bool false,X8 (Xb (qd C.x)),.bool (decide (C.y.num<0)),X8 (Xb C.y.num.natAbs),.bool false,X8 (Xb (qd C.y))]) true:=nrfl rfl
theorem pq (L:List V2) (R:List Nat) (p k:Nat) (h:Rok L R) (hp:p<R.length) (hs:XV L k) (hk:k≤10000):Fn Tryz.prog 274 [j9 L R,I p] (.bool (BN L R p)):=by
 have c1:=Vv L R p k h hp hs hk
 have c2:=Gr L R p h (by have:=h.len; omega)
 obtain ⟨h0,hn,hmem,hL⟩:=h
 have m1:=hmem ((p+R.length - 1) % R.length)
 have m2:=hmem ((p+R.length+1) % R.length)
 have m3:=hmem p
 change nr R (p+R.length - 1)<L.length at m1
 change nr R (p+R.length+1)<L.length at m2
 have hear:BN L R p=decide (0<HH L R p∧∀ j,j<R.length→Bu L (nr R (p+R.length - 1)) (R.getD p 0) (nr R (p+R.length+1)) (R.getD j 0)):=rfl
 generalize BN L R p=E at *
 generalize HH L R p=S at *
 generalize nr R (p+R.length - 1)=a at *
 generalize nr R (p+R.length+1)=c at *
 have v2:=B7 R p
 generalize R.getD p 0=b at *
 have f1:((p:Int)<R.length)=True:=eq_true (by omega)
 have f2:(p<R.length)=True:=eq_true hp
 have f3:(p+1≤R.length)=True:=eq_true (by omega)
 have a1:((a:Int)<L.length)=True:=eq_true (by omega)
 have a2:(a<L.length)=True:=eq_true m1
 have a3:(a*8+8≤L.length*8)=True:=eq_true (by omega)
 have b1:((b:Int)<L.length)=True:=eq_true (by omega)
 have b2:(b<L.length)=True:=eq_true m3
 have b3:(b*8+8≤L.length*8)=True:=eq_true (by omega)
 have e1:((c:Int)<L.length)=True:=eq_true (by omega)
 have e2:(c<L.length)=True:=eq_true m2
 have e3:(c*8+8≤L.length*8)=True:=eq_true (by omega)
 have va:=vF L a
 have vb:=vF L b
 have vc:=vF L c
 refine Fq Tryz.call274 Tryz.func274 11 [52,53,54,77,78,79] [] [] (by simp [AW,X9]) (X1 1000 ?_)
 simp only [AS.start,XX,X5,X4,↓X2,wA,↓reduceIte,reduceIte,reduceCtorEq,Y1,Y2,Y3,Y4,Y5,Y6,Y7,Y8,Y9,YA,wE]
 refine X0 c1 rfl ?_
 by_cases hS:S≤0
 ·have g1:(S≤0)=True:=eq_true hS
  have hE:E=false:=by rw [hear]; exact decide_eq_false fun hh=>by omega
  simp only [XX,X5,X4,g1,↓X2,wA,↓reduceIte,reduceIte,reduceCtorEq,Y1,Y2,Y3,Y4,Y5,Y6,Y7,Y8,Y9,YA,wE]
  exact Xs (v:=.bool false) rfl rfl (X3 _) (by rw [hE])
 have g1:(S≤0)=False:=eq_false hS
 simp only [XX,X5,X4,g1,↓X2,wA,↓reduceIte,reduceIte,reduceCtorEq,Y1,Y2,Y3,Y4,Y5,Y6,Y7,Y8,Y9,YA,wE]
 refine X0 c2 rfl ?_
 simp only [XX,X5,X4,Xm,f1,f2,f3,a1,a2,a3,b1,b2,b3,e1,e2,e3,va,vb,vc,v2,Int.toNat_natCast,↓X2,wA,↓reduceIte,reduceIte,reduceCtorEq,Y1,Y2,Y3,Y4,Y5,Y6,Y7,Y8,Y9,YA,wE]
 have sA:=hs a
 have sB:=hs b
 have sC:=hs c
 generalize hA:L.getD a v0=A at *
 generalize hB:L.getD b v0=B at *
 generalize hC:L.getD c v0=C at *
 have hfree:∀ q,Bu L a b c q=(q=a∨q=c∨q=b∨¬ j8 A B C (L.getD q v0)):=fun q=>by unfold Bu; rw [hA,hB,hC]
 refine Xe (fun j:Nat=>⟨11,[52,53,54,77,78,79],[j9 L R,I p,.any,.any,.any,I a,I c,HK A B C,.any,.any,.any],[(52,X8 (zs R)),(53,I R.length),(54,I j)],[]⟩) (fun j=>j≤R.length∧∀ i,i<j→Bu L a b c (R.getD i 0)) (fun j=>R.length - j) 0 ⟨by omega,fun i hi=>absurd hi (Nat.not_lt_zero i)⟩
  (Xa rfl (by simp [Xh,XX,X5,X4,Xm,XR,I]) (by simp [Xi,Xw,X4,Xm,I]) rfl) ?_
 rintro j ⟨hj,hno⟩ next
 have w1:=wj j (by omega)
 by_cases hj2:j<R.length
 rotate_left
 ·obtain rfl:j=R.length:=by omega
  have hE:E=true:=by rw [hear]; exact decide_eq_true ⟨by omega,hno⟩
  refine X1 1000 ?_
  simp only [XX,X5,X4,Xm,XR,Int.lt_irrefl,Nat.lt_irrefl,↓X2,wA,↓reduceIte,reduceIte,reduceCtorEq,Y1,Y2,Y3,Y4,Y5,Y6,Y7,Y8,Y9,YA,wE]
  exact Xs (v:=.bool true) rfl rfl (X3 _) (by rw [hE])
 have k1:((j:Int)<R.length)=True:=eq_true (by omega)
 have k2:(j<R.length)=True:=eq_true hj2
 have k3:(j+1≤R.length)=True:=eq_true (by omega)
 have v3:=B7 R j
 have m4:=hmem j
 have nx:=next (j+1)
 have hgo:=fun hfr=>JR.2 (show (∀ i,i<j→Bu L a b c (R.getD i 0))∧Bu L a b c (R.getD j 0) from ⟨hno,hfr⟩)
 have hstop:¬ Bu L a b c (R.getD j 0)→E=false:=fun hb=>by rw [hear]; exact decide_eq_false fun hh=>hb (hh.2 j hj2)
 rw [hfree] at hgo hstop
 generalize R.getD j 0=q at *
 have sQ:=hs q
 by_cases q1:q=a
 ·have g1:((q:Int)=(a:Int))=True:=eq_true (by omega)
  refine X1 1000 ?_
  simp only [XX,X5,X4,Xm,XR,w1,f1,f2,f3,v2,k1,k2,k3,v3,g1,Int.toNat_natCast,↓X2,wA,↓reduceIte,reduceIte,reduceCtorEq,Y1,Y2,Y3,Y4,Y5,Y6,Y7,Y8,Y9,YA,wE]
  exact nx _ ⟨by omega,hgo (.inl q1)⟩ (by omega) (Xa rfl (by simp [Xh,XX,X5,X4,Xm,XR,I]) (by simp [Xi,Xw,X4,Xm,I]) rfl)
 have g1':((q:Int)=(a:Int))=False:=eq_false (by omega)
 by_cases q2:q=c
 ·have g2:((q:Int)=(c:Int))=True:=eq_true (by omega)
  refine X1 1000 ?_
  simp only [XX,X5,X4,Xm,XR,w1,f1,f2,f3,v2,k1,k2,k3,v3,g1',g2,Int.toNat_natCast,↓X2,wA,↓reduceIte,reduceIte,reduceCtorEq,Y1,Y2,Y3,Y4,Y5,Y6,Y7,Y8,Y9,YA,wE]
  exact nx _ ⟨by omega,hgo (.inr (.inl q2))⟩ (by omega) (Xa rfl (by simp [Xh,XX,X5,X4,Xm,XR,I]) (by simp [Xi,Xw,X4,Xm,I]) rfl)
 have g2':((q:Int)=(c:Int))=False:=eq_false (by omega)
 by_cases q3:q=b
 ·have g3:((q:Int)=(b:Int))=True:=eq_true (by omega)
  refine X1 1000 ?_
  simp only [XX,X5,X4,Xm,XR,w1,f1,f2,f3,v2,k1,k2,k3,v3,g1',g2',g3,Int.toNat_natCast,↓X2,wA,↓reduceIte,reduceIte,reduceCtorEq,Y1,Y2,Y3,Y4,Y5,Y6,Y7,Y8,Y9,YA,wE]
  exact nx _ ⟨by omega,hgo (.inr (.inr (.inl q3)))⟩ (by omega) (Xa rfl (by simp [Xh,XX,X5,X4,Xm,XR,I]) (by simp [Xi,Xw,X4,Xm,I]) rfl)
 have g3':((q:Int)=(b:Int))=False:=eq_false (by omega)
 refine X1 1000 ?_
 simp only [XX,X5,X4,Xm,XR,w1,f1,f2,f3,v2,k1,k2,k3,v3,g1',g2',g3',Int.toNat_natCast,↓X2,wA,↓reduceIte,reduceIte,reduceCtorEq,Y1,Y2,Y3,Y4,Y5,Y6,Y7,Y8,Y9,YA,wE]
 have x1:((q:Int)<L.length)=True:=eq_true (by omega)
 have x2:(q<L.length)=True:=eq_true m4
 have x3:(q*8+8≤L.length*8)=True:=eq_true (by omega)
 have vq:=vF L q
 generalize hQ:L.getD q v0=Q at *
 have z0:((0:Int)<3)=True:=eq_true (by omega)
 have z1:((1:Int)<3)=True:=eq_true (by omega)
 have z2:((2:Int)<3)=True:=eq_true (by omega)
 have z3:((3:Int)<3)=False:=eq_false (by omega)
 have t1:IntKind.i64.wrap (0+1)=1:=rfl
 have t2:IntKind.i64.wrap (1+1)=2:=rfl
 have t3:IntKind.i64.wrap (2+1)=3:=rfl
 have r1:(1:Int).tmod 3=1:=rfl
 have r2:(2:Int).tmod 3=2:=rfl
 have r3:(3:Int).tmod 3=0:=rfl
 have c3:((3:Nat):Int)=3:=rfl
 have d0:Int.toNat 0=0:=rfl
 have d1:Int.toNat 1=1:=rfl
 have d2:Int.toNat 2=2:=rfl
 have c11:((1:Nat):Int)=1:=rfl
 have c22:((2:Nat):Int)=2:=rfl
 have n3:((3:Int)=0)=False:=eq_false (by omega)
 have p0:((0:Int)≤0)=True:=eq_true (by omega)
 have p1:((0:Int)≤1)=True:=eq_true (by omega)
 have p2:((0:Int)≤2)=True:=eq_true (by omega)
 have o1:IntKind.i64.wrap 1=1:=rfl
 have o2:IntKind.i64.wrap 2=2:=rfl
 have o3:IntKind.i64.wrap 0=0:=rfl
 refine Xe (fun i:Nat=>⟨11,[52,53,54,77,78,79],[j9 L R,I p,.any,.any,.any,I a,I c,HK A B C,.any,I q,.any],[(77,HK A B C),(78,I 3),(79,I i),(52,X8 (zs R)),(53,I R.length),(54,I j)],[]⟩) (fun i=>i≤3∧((0<i→0≤Jd A B Q)∧(1<i→0≤Jd B C Q)∧(2<i→0≤Jd C A Q))) (fun i=>3 - i) 0 ⟨by omega,by omega,by omega,by omega⟩
  (Xa rfl (by simp [Xh,XX,X5,X4,Xm,XR,I]) (by simp [Xi,Xw,X4,Xm,XR,I]) rfl) ?_
 rintro i ⟨hi,hin⟩ next2
 rcases (show i=0∨i=1∨i=2∨i=3 by omega) with rfl | rfl | rfl | rfl
 ·have cs:=Zi A B Q (by unfold vs; omega) (by unfold vs; omega) (by unfold vs; omega)
  have n2:=next2 1
  refine X1 1000 ?_
  simp only [XX,X5,X4,Xm,XR,w1,z0,z1,z2,z3,t1,t2,t3,x1,x2,x3,o1,o2,o3,c3,d0,d1,d2,c11,c22,n3,p0,p1,p2,not_false_eq_true,true_and,r1,r2,r3,vq,Int.toNat_natCast,↓X2,wA,↓reduceIte,reduceIte,reduceCtorEq,Y1,Y2,Y3,Y4,Y5,Y6,Y7,Y8,Y9,YA,wE]
  refine X0 cs rfl ?_
  by_cases hneg:Jd A B Q<0
  ·simp only [eq_true hneg,XX,X5,X4,Xm,XR,w1,↓X2,wA,↓reduceIte,reduceIte,reduceCtorEq,Y1,Y2,Y3,Y4,Y5,Y6,Y7,Y8,Y9,YA,wE]
   exact nx _ ⟨by omega,hgo (.inr (.inr (.inr fun hh=>by unfold j8 at hh; omega)))⟩ (by omega) (Xa rfl (by simp [Xh,XX,X5,X4,Xm,XR,I]) (by simp [Xi,Xw,X4,Xm,I]) rfl)
  ·simp only [eq_false hneg,XX,X5,X4,Xm,XR,w1,t1,t2,t3,↓X2,wA,↓reduceIte,reduceIte,reduceCtorEq,Y1,Y2,Y3,Y4,Y5,Y6,Y7,Y8,Y9,YA,wE]
   exact n2 _ ⟨by omega,by omega⟩ (by omega) (Xa rfl (by simp [Xh,XX,X5,X4,Xm,XR,I]) (by simp [Xi,Xw,X4,Xm,XR,I]) rfl)
 ·have cs:=Zi B C Q (by unfold vs; omega) (by unfold vs; omega) (by unfold vs; omega)
  have n2:=next2 2
  refine X1 1000 ?_
  simp only [XX,X5,X4,Xm,XR,w1,z0,z1,z2,z3,t1,t2,t3,x1,x2,x3,o1,o2,o3,c3,d0,d1,d2,c11,c22,n3,p0,p1,p2,not_false_eq_true,true_and,r1,r2,r3,vq,Int.toNat_natCast,↓X2,wA,↓reduceIte,reduceIte,reduceCtorEq,Y1,Y2,Y3,Y4,Y5,Y6,Y7,Y8,Y9,YA,wE]
  refine X0 cs rfl ?_
  by_cases hneg:Jd B C Q<0
  ·simp only [eq_true hneg,XX,X5,X4,Xm,XR,w1,↓X2,wA,↓reduceIte,reduceIte,reduceCtorEq,Y1,Y2,Y3,Y4,Y5,Y6,Y7,Y8,Y9,YA,wE]
   exact nx _ ⟨by omega,hgo (.inr (.inr (.inr fun hh=>by unfold j8 at hh; omega)))⟩ (by omega) (Xa rfl (by simp [Xh,XX,X5,X4,Xm,XR,I]) (by simp [Xi,Xw,X4,Xm,I]) rfl)
  ·simp only [eq_false hneg,XX,X5,X4,Xm,XR,w1,t1,t2,t3,↓X2,wA,↓reduceIte,reduceIte,reduceCtorEq,Y1,Y2,Y3,Y4,Y5,Y6,Y7,Y8,Y9,YA,wE]
   exact n2 _ ⟨by omega,by omega⟩ (by omega) (Xa rfl (by simp [Xh,XX,X5,X4,Xm,XR,I]) (by simp [Xi,Xw,X4,Xm,XR,I]) rfl)
 ·have cs:=Zi C A Q (by unfold vs; omega) (by unfold vs; omega) (by unfold vs; omega)
  have n2:=next2 3
  refine X1 1000 ?_
  simp only [XX,X5,X4,Xm,XR,w1,z0,z1,z2,z3,t1,t2,t3,x1,x2,x3,o1,o2,o3,c3,d0,d1,d2,c11,c22,n3,p0,p1,p2,not_false_eq_true,true_and,r1,r2,r3,vq,Int.toNat_natCast,↓X2,wA,↓reduceIte,reduceIte,reduceCtorEq,Y1,Y2,Y3,Y4,Y5,Y6,Y7,Y8,Y9,YA,wE]
  refine X0 cs rfl ?_
  by_cases hneg:Jd C A Q<0
  ·simp only [eq_true hneg,XX,X5,X4,Xm,XR,w1,↓X2,wA,↓reduceIte,reduceIte,reduceCtorEq,Y1,Y2,Y3,Y4,Y5,Y6,Y7,Y8,Y9,YA,wE]
   exact nx _ ⟨by omega,hgo (.inr (.inr (.inr fun hh=>by unfold j8 at hh; omega)))⟩ (by omega) (Xa rfl (by simp [Xh,XX,X5,X4,Xm,XR,I]) (by simp [Xi,Xw,X4,Xm,I]) rfl)
  ·simp only [eq_false hneg,XX,X5,X4,Xm,XR,w1,t1,t2,t3,↓X2,wA,↓reduceIte,reduceIte,reduceCtorEq,Y1,Y2,Y3,Y4,Y5,Y6,Y7,Y8,Y9,YA,wE]
   exact n2 _ ⟨by omega,by omega⟩ (by omega) (Xa rfl (by simp [Xh,XX,X5,X4,Xm,XR,I]) (by simp [Xi,Xw,X4,Xm,XR,I]) rfl)
 ·have hE:E=false:=hstop (by
   rintro (e | e | e | e)
   ·exact q1 e
   ·exact q2 e
   ·exact q3 e
   ·exact e ⟨hin.1 (by omega),hin.2.1 (by omega),hin.2.2 (by omega)⟩)
  refine X1 1000 ?_
  simp only [XX,X5,X4,Xm,XR,z3,c3,↓X2,wA,↓reduceIte,reduceIte,reduceCtorEq,Y1,Y2,Y3,Y4,Y5,Y6,Y7,Y8,Y9,YA,wE]
  exact Xs (v:=.bool false) rfl rfl (X3 _) (by rw [hE])
theorem ED (i:Nat):zs (List.range (i+1))=zs (List.range i) ++ [(i:Int)]:=by unfold zs; rw [List.range_succ,List.map_append]; rfl
theorem oK (L:List V2) (hl:L.length<1000000):HCall Tryz.prog 273 [Xp L] [] (.ref 0 0 0) (Ls L (2*L.length) (List.range L.length)):=by
 refine HCall.intro (fn:=Tryz.f273) Tryz.call273 Tryz.func273 rfl mixed 5 [8,9,10] [] [] (by kernel_rfl) (Nat.le_of_ble_eq_true rfl) (X1 1000 ?_)
 simp only [AS.start,X5,↓X2,wA,seval,wE]
 refine Xe (fun i:Nat=>⟨5,[8,9,10],[.any,.any,.any,.ref 0 0 0,.any],[(8,Xp L),(9,I L.length),(10,I i)],[.row 0 2 (Xq [Xp L,.osl 1 i 1 0 i]),.row i i (Q1 I 0 (zs (List.range i)))]⟩) (fun i=>i≤L.length) (fun i=>L.length - i) 0 (by omega)
  (Sub.trans (I5 (Q1 I 0 (zs (List.range 0)))) (Sub.trans (A3 0 (Xq [Xp L,.osl 1 0 1 0 0]) rfl (fun j hj=>by
   match j,hj with
   | 0,_=>exact QY _ _
   | 1,_ =>
    show Zo _ (.sl 0 0 (fun _=>.any) true) (.osl 1 0 1 0 0)
    exact Be (n:=0) (f:=Q1 I 0 (zs (List.range 0))) rfl
   | j+2,h=>exact absurd h (by show ¬ j+2<2; omega))) (Xa rfl (by simp [Xh]) (by simp [Xi,Xw,X5,I]) rfl))) ?_
 intro i hi next
 have w1:=wj i (by omega)
 by_cases hi2:i<L.length
 rotate_left
 ·obtain rfl:i=L.length:=by omega
  refine X1 1000 ?_
  simp only [X5,Int.lt_irrefl,Nat.lt_irrefl,↓X2,wA,seval,wE]
  refine nW rfl rfl ?_
  rw [J6,List.length_range,show 2*L.length - L.length=L.length by omega,X5]
 have nx:=next (i+1)
 rw [ED] at nx
 have hz:(zs (List.range i)).length=i:=by rw [Xm,List.length_range]
 generalize zs (List.range i)=Z at *
 have f1:((i:Int)<L.length)=True:=eq_true (by omega)
 have f2:(i<L.length)=True:=eq_true hi2
 have hap:=Cv Z (i:Int)
 rw [hz] at hap
 refine X1 1000 ?_
 simp only [X5,w1,f1,f2,Int.toNat_natCast,↓X2,wA,seval,wE]
 exact ⟨⟨by omega,by omega⟩,nx _ (by omega) (by omega) (Xa rfl (by simp [Xh]) (by simp [Xi,Xw,X5,I]) (by rw [← hap]; rfl))⟩
theorem pi (L:List V2) (N:Nat) (R:List Nat) (p k:Nat) (h:Rok L R) (hd:R.Nodup) (hN:R.length≤N) (h3:3<R.length) (hp:p<R.length) (hs:XV L k) (hk:k≤10000) :
  HCall Tryz.prog 275 [.ref 0 0 0,I p] (Ls L N R) (.agg [I (nr R (p+R.length - 1)),I (R.getD p 0:Nat),I (nr R (p+R.length+1))]) (Ls L N (Zd L (R.length - 1) (R.eraseIdx p))):=by
 have c1:=Gr L R p h (by have:=h.len; omega)
 have cd:=My (.row 0 2 (Xq [Xp L,.osl 1 (N - R.length) 1 0 R.length])) (zs R) (N - R.length) p (by rw [Xm]; exact hp)
 rw [Xm,Sr] at cd
 have hl:(R.eraseIdx p).length=R.length - 1:=by rw [List.length_eraseIdx,if_pos hp]
 have cc:=di L N (R.eraseIdx p) k (Bl h h3 hp) (hd.eraseIdx p) (by omega) hs hk
 rw [hl] at cc
 have v2:=B7 R p
 have hR:=h
 obtain ⟨h0,hn,hmem,hL⟩:=hR
 generalize Zd L (R.length - 1) (R.eraseIdx p)=R2 at *
 generalize nr R (p+R.length - 1)=a at *
 generalize nr R (p+R.length+1)=c at *
 generalize R.getD p 0=b at *
 have f1:((p:Int)<R.length)=True:=eq_true (by omega)
 have f2:(p<R.length)=True:=eq_true hp
 have f3:(p+1≤R.length)=True:=eq_true (by omega)
 have w1:=wj p (by omega)
 refine HCall.introC (fn:=Tryz.f275) Tryz.call275 Tryz.func275 rfl mixed 8 [] [] [] (by kernel_rfl) (Nat.le_of_ble_eq_true rfl) (X6 (Qd (by simp [X9]))) (fun o ho=>((Kr _ _ _).2 o ho).1) (X1 1000 ?_)
 simp only [AS.start,J6,List.cons_append,List.nil_append,↓X2,wA,seval,wE]
 refine JP c1 rfl ⟨I4 (N:=N) (rest:=[.row 0 3 (Xq [I 0,I 0,I 0])]),QC (X9 _) rfl,trivial⟩ (eo (by simp [I,Cf])) ?_
 simp only [w1,f1,f2,f3,v2,Int.toNat_natCast,↓X2,wA,seval,wE]
 have o2:∀ o∈[AO.row 0 2 (Xq [Xp L,.osl 1 (N - R.length) 1 0 R.length]),.row (N - R.length+1) (R.length - 1) (Q1 I 0 (zs (R.eraseIdx p)))],o≠.unborn∧∀ v n f,o≠.con v n f:=fun o ho=>by
  simp only [List.mem_cons,List.not_mem_nil,or_false] at ho
  rcases ho with rfl | rfl <;> exact ⟨by simp,by simp⟩
 have bA:∀ a∈[AV.osl 1 (N - R.length) 1 0 R.length,I p,I ((p+1:Nat):Int)],Jj 2 a:=fun a ha=>by
  simp only [List.mem_cons,List.not_mem_nil,or_false] at ha
  rcases ha with rfl | rfl | rfl
  ·exact NQ (by omega)
  ·exact X6 (X9 _)
  ·exact X6 (X9 _)
 have bR:∀ a∈[AV.ref 0 0 0],Jj 2 a:=fun a ha=>by
  rw [List.mem_singleton.1 ha]
  have:Jj 2 (.ref 0 0 0)=True:=by simp [Xx]
  exact this▸trivial
 refine Ah (H1:=Ls L N R) (H1':=[AO.row 0 2 (Xq [Xp L,.osl 1 (N - R.length) 1 0 R.length]),.row (N - R.length+1) (R.length - 1) (Q1 I 0 (zs (R.eraseIdx p)))]) (rest:=[.row 0 3 (Xq [I 0,I 0,I 0]),.row 0 3 (Xq [I a,I b,I c])]) rfl cd rfl rfl bA (fun o ho=>((Kr L N R).2 o ho).1) (fun o ho=>((Kr L N R).2 o ho).2.1) (fun o ho=>(o2 o ho).1) (Jo (fun o ho=>((Kr L N R).2 o ho).2.2) (fun o ho=>(o2 o ho).2)) (Q9 _) ?_
 simp only [List.cons_append,List.nil_append,↓X2,wA,seval,wE]
 refine Ah (H1:=Ls L N (R.eraseIdx p)) (H1':=Ls L N R2) (rest:=[.row 0 3 (Xq [I 0,I 0,I 0]),.row 0 3 (Xq [I a,I b,I c])]) rfl cc (by rw [J6,hl,show N - (R.length - 1)=N - R.length+1 by omega]; rfl) rfl bR (fun o ho=>((Kr L N _).2 o ho).1) (fun o ho=>((Kr L N _).2 o ho).2.1) (fun o ho=>((Kr L N _).2 o ho).2.1) (Jo (fun o ho=>((Kr L N _).2 o ho).2.2) (fun o ho=>((Kr L N _).2 o ho).2.2)) (Q9 _) ?_
 simp only [J6,List.cons_append,List.nil_append,↓X2,wA,seval,wE]
 exact Vq (v:=.agg [I a,I b,I c]) rfl (by simp [AS.get,Jv,fq,rd,Qm,Xq,ZU,I]) rfl rfl
def az (R:List Nat):AV:=.agg [X8 (zs R)]
theorem QI (R:List Nat):az R=.agg [X8 (zs R)]:=nrfl rfl
theorem ZH (R:List Nat):Settled (az R):=Qd (by simp [X7])
theorem E0 (R:List Nat) (p:Nat) (k:Int) (m:Nat) (h0:0<R.length) (hn:R.length<1000000) (hk:p+k+R.length=m) (hp:p<1000000) (h1:-10≤k) (h2:k≤10):Fn Tryz.prog 278 [az R,I p,I k] (I (nr R m)):=by
 have w1:IntKind.i64.wrap ((p:Int)+k)=(p:Int)+k:=by rw [IntKind.wrap_i64]; omega
 have w2:IntKind.i64.wrap ((p:Int)+k+R.length)=(m:Int):=by rw [IntKind.wrap_i64]; omega
 have hmod:(m:Int).tmod R.length=((m % R.length:Nat):Int):=rfl
 have hlt:m % R.length<R.length:=Nat.mod_lt _ h0
 have f1:(((m % R.length:Nat):Int)<R.length)=True:=eq_true (by omega)
 have f2:(m % R.length<R.length)=True:=eq_true hlt
 have f3:(m % R.length+1≤R.length)=True:=eq_true (by omega)
 have f6:((R.length:Int)=0)=False:=eq_false (by omega)
 have f6':(R.length=0)=False:=eq_false (by omega)
 have w3:IntKind.i64.wrap (((m % R.length:Nat):Int))=((m % R.length:Nat):Int):=by rw [IntKind.wrap_i64]; omega
 have v1:=o7 R m
 refine Fq Tryz.call278 Tryz.func278 8 [] [] [] (by simp [ZH,X9]) (X1 1000 ?_)
 simp only [AS.start,QI,X4,Xm,w1,w2,w3,hmod,f1,f2,f3,f6,f6',v1,Int.toNat_natCast,↓X2,wA,seval,wE]
 exact Xs rfl rfl (X9 _) rfl
theorem RH (L:List V2) (R:List Nat) (p k:Nat) (h:Rok L R) (hp:p<R.length) (hs:XV L k) (hk:k≤10000):Fn Tryz.prog 292 [Xp L,az R,I p] (I (HH L R p)):=by
 have c1:=E0 R p (-1) (p+R.length - 1) h.pos h.len (by have:=h.pos; omega) (by have:=h.len; omega) (by omega) (by omega)
 have c3:=E0 R p 1 (p+R.length+1) h.pos h.len (by omega) (by have:=h.len; omega) (by omega) (by omega)
 have c2:=AN (L.getD (nr R (p+R.length - 1)) v0) (L.getD (R.getD p 0) v0) (L.getD (nr R (p+R.length+1)) v0) (by have:=hs (nr R (p+R.length - 1)); unfold vs; omega) (by have:=hs (R.getD p 0); unfold vs; omega) (by have:=hs (nr R (p+R.length+1)); unfold vs; omega)
 obtain ⟨h0,hn,hmem,hL⟩:=h
 have m1:=hmem ((p+R.length - 1) % R.length)
 have m2:=hmem ((p+R.length+1) % R.length)
 have m3:=hmem p
 change nr R (p+R.length - 1)<L.length at m1
 change nr R (p+R.length+1)<L.length at m2
 unfold HH
 generalize nr R (p+R.length - 1)=a at *
 generalize nr R (p+R.length+1)=c at *
 have v2:=B7 R p
 generalize R.getD p 0=b at *
 have f1:((p:Int)<R.length)=True:=eq_true (by omega)
 have f2:(p<R.length)=True:=eq_true hp
 have f3:(p+1≤R.length)=True:=eq_true (by omega)
 have a1:((a:Int)<L.length)=True:=eq_true (by omega)
 have a2:(a<L.length)=True:=eq_true m1
 have a3:(a*8+8≤L.length*8)=True:=eq_true (by omega)
 have b1:((b:Int)<L.length)=True:=eq_true (by omega)
 have b2:(b<L.length)=True:=eq_true m3
 have b3:(b*8+8≤L.length*8)=True:=eq_true (by omega)
 have e1:((c:Int)<L.length)=True:=eq_true (by omega)
 have e2:(c<L.length)=True:=eq_true m2
 have e3:(c*8+8≤L.length*8)=True:=eq_true (by omega)
 have va:=vF L a
 have vb:=vF L b
 have vc:=vF L c
 refine Fq Tryz.call292 Tryz.func292 7 [] [] [] (by simp [Xd,ZH,X9]) (X1 1000 ?_)
 simp only [AS.start,QI,X5,X4,Xm,↓X2,wA,seval,wE]
 refine X0 c1 (by simp only [QI,X4,Xm]; rfl) ?_
 simp only [QI,X5,X4,Xm,f1,f2,f3,a1,a2,a3,b1,b2,b3,e1,e2,e3,va,vb,vc,v2,Int.toNat_natCast,↓X2,wA,seval,wE]
 refine X0 c3 (by simp only [QI,X4,Xm]; rfl) ?_
 simp only [QI,X5,X4,Xm,f1,f2,f3,a1,a2,a3,b1,b2,b3,e1,e2,e3,va,vb,vc,v2,Int.toNat_natCast,↓X2,wA,seval,wE]
 refine X0 c2 rfl ?_
 simp only [↓X2,wA,seval,wE]
 exact Xs rfl rfl (X9 _) rfl
theorem qv (a b c q:V2) (ha:vb a≤vs) (hb:vb b≤vs) (hc:vb c≤vs) (hq:vb q≤vs):Fn Tryz.prog 293 [vA a,vA b,vA c,vA q] (.bool (decide (j8 a b c q))):=by
 have c1:=AN a b q ha hb hq
 have c2:=AN b c q hb hc hq
 have c3:=AN c a q hc ha hq
 have hin:decide (j8 a b c q)=decide (0≤Jd a b q∧0≤Jd b c q∧0≤Jd c a q):=decide_eq_decide.2 Iff.rfl
 generalize decide (j8 a b c q)=E at *
 generalize Jd a b q=x at *
 generalize Jd b c q=y at *
 generalize Jd c a q=z at *
 refine Fq Tryz.call293 Tryz.func293 9 [] [] [] (by simp [Xn]) (X1 1000 ?_)
 simp only [AS.start,↓X2,wA,seval,wE]
 refine X0 c1 rfl ?_
 by_cases h1:0≤x
 rotate_left
 ·have g1:(0≤x)=False:=eq_false h1
  have hE:E=false:=by rw [hin]; exact decide_eq_false (fun h=>h1 h.1)
  simp only [g1,↓X2,wA,seval,wE]
  exact Xs (v:=.bool false) rfl rfl (X3 _) (by rw [hE])
 have g1:(0≤x)=True:=eq_true h1
 simp only [g1,↓X2,wA,seval,wE]
 refine X0 c2 rfl ?_
 by_cases h2:0≤y
 rotate_left
 ·have g2:(0≤y)=False:=eq_false h2
  have hE:E=false:=by rw [hin]; exact decide_eq_false (fun h=>h2 h.2.1)
  simp only [g1,g2,↓X2,wA,seval,wE]
  exact Xs (v:=.bool false) rfl rfl (X3 _) (by rw [hE])
 have g2:(0≤y)=True:=eq_true h2
 simp only [g1,g2,↓X2,wA,seval,wE]
 refine X0 c3 rfl ?_
 by_cases h3:0≤z
 rotate_left
 ·have g3:(0≤z)=False:=eq_false h3
  have hE:E=false:=by rw [hin]; exact decide_eq_false (fun h=>h3 h.2.2)
  simp only [g1,g2,g3,↓X2,wA,seval,wE]
  exact Xs (v:=.bool false) rfl rfl (X3 _) (by rw [hE])
 have g3:(0≤z)=True:=eq_true h3
 have hE:E=true:=by rw [hin]; exact decide_eq_true ⟨h1,h2,h3⟩
 simp only [g1,g2,g3,↓X2,wA,seval,wE]
 exact Xs (v:=.bool true) rfl rfl (X3 _) (by rw [hE])
theorem Sb {R:List Nat} {i:Nat} (h:i<R.length):R.take (i+1)=R.take i ++ [R.getD i 0]:=by
 rw [List.take_add_one,List.getD_eq_getElem?_getD,List.getElem?_eq_getElem h]; rfl
theorem ee {R:List Nat} {i:Nat} (h:i<R.length):(R.take (i+1)).eraseIdx i=R.take i:=by
 have hl:(R.take i).length=i:=by rw [List.length_take]; omega
 rw [Sb h,List.eraseIdx_append_of_length_le (by omega),hl,Nat.sub_self]
 simp
theorem ed {R:List Nat} {i p:Nat} (h:i<R.length) (hp:i≠p):(R.take (i+1)).eraseIdx p=(R.take i).eraseIdx p ++ [R.getD i 0]:=by
 have hl:(R.take i).length=i:=by rw [List.length_take]; omega
 rw [Sb h]
 by_cases hlt:p<i
 ·rw [List.eraseIdx_append_of_lt_length (by omega)]
 ·rw [List.eraseIdx_of_length_le (by simp; omega),List.eraseIdx_of_length_le (by omega)]
theorem ny (R:List Nat) (x:Nat):zs (R ++ [x])=zs R ++ [(x:Int)]:=by unfold zs; rw [List.map_append]; rfl
theorem LS (R:List Nat) (p:Nat) (hn:R.length<1000000) (hp:p<1000000):Fn Tryz.prog 280 [az R,I p] (az (R.eraseIdx p)):=by
 have s0:∀ v n l,XI 3 (.row v n (Q1 I 0 l))=True:=fun v n l=>eq_true fun j _=>X6 (X9 _)
 refine Fq Tryz.call280 Tryz.func280 7 [] [6,70000002,7001] [] (by simp [ZH,X9]) (X1 1000 ?_)
 simp only [AS.start,QI,X4,Xm,↓X2,wA,seval,wE]
 refine Xe (fun i:Nat=>⟨7,[],[az R,I p,.ref 0 0 0,.any,.ref 1 0 0,.ref 2 0 0,I i],[],[.con 0 1 (Xq [X8 (zs R)]),.row 0 1 (Xq [.sl 0 0 (fun _=>.any) true]),.row 0 1 (Xq [.osl 3 ((R.take i).eraseIdx p).length 1 0 ((R.take i).eraseIdx p).length]),.row ((R.take i).eraseIdx p).length ((R.take i).eraseIdx p).length (Q1 I 0 (zs ((R.take i).eraseIdx p)))]⟩) (fun i=>i≤R.length) (fun i=>R.length - i) 0 (by omega)
  (Sub.trans (Qp 0 rfl) ((QN 2 1 (fun _=>.sl 0 0 (fun _=>.any) true) rfl (Nat.le_refl _) (fun j hj=>by have e:j=0:=Nat.lt_one_iff.1 hj; subst e; rfl)).trans ((BJ 2 1 (Q1 I 0 []) rfl 1 (Nat.le_refl _)).trans ((QN 2 1 (Xq [.osl 3 0 1 0 0]) rfl (Nat.le_refl _) (fun j hj=>by have e:j=0:=Nat.lt_one_iff.1 hj; subst e; rfl)).trans (Xa rfl (by simp [Xh,QI,X4,Xm,I]) (by simp [Xi]) (by simp [X4,Xm,zs])))))) ?_
 intro i hi next
 have w1:=wj i (by omega)
 by_cases hi2:i<R.length
 rotate_left
 ·obtain rfl:i=R.length:=by omega
  rw [List.take_length] at *
  refine X1 1000 ?_
  simp only [QI,X4,Xm,Int.lt_irrefl,Nat.lt_irrefl,↓X2,wA,seval,wE]
  have hz:=Ef (l:=zs (R.eraseIdx p)) (H:=[.con 0 1 (Xq [.sl R.length R.length (Q1 I 0 (zs R)) false]),.row 0 1 (Xq [.osl 3 (R.eraseIdx p).length 1 0 (R.eraseIdx p).length]),.row 0 1 (Xq [.osl 3 (R.eraseIdx p).length 1 0 (R.eraseIdx p).length]),.row (R.eraseIdx p).length (R.eraseIdx p).length (Q1 I 0 (zs (R.eraseIdx p)))]) (id:=3) (ver:=(R.eraseIdx p).length) (n:=(R.eraseIdx p).length) rfl (by rw [Xm]; exact Nat.le_refl _)
  rw [Xm] at hz
  exact BF (v:=.agg [.osl 3 (R.eraseIdx p).length 1 0 (R.eraseIdx p).length]) rfl (by simp [AS.get,Jv,O2,rd,Qm,Xq,ZU]) (ZZ ⟨hz,trivial⟩)
 have f1:((i:Int)<R.length)=True:=eq_true (by omega)
 have f2:(i<R.length)=True:=eq_true hi2
 have f3:(i+1≤R.length)=True:=eq_true (by omega)
 have v1:=B7 R i
 have nx:=next (i+1)
 by_cases hip:i=p
 ·subst hip
  have g1:((i:Int)=(i:Int))=True:=eq_true rfl
  have e0:(R.take i).eraseIdx i=R.take i:=List.eraseIdx_of_length_le (by rw [List.length_take]; omega)
  rw [ee hi2] at nx
  rw [e0]
  refine X1 1000 ?_
  simp only [QI,X4,Xm,w1,f1,f2,f3,v1,g1,Int.toNat_natCast,↓X2,wA,seval,wE]
  exact nx _ (by omega) (by omega) (Xa rfl (by simp [Xh,QI,X4,Xm,I]) (by simp [Xi]) (by simp [X4,Xm]))
 ·have g1:((i:Int)=(p:Int))=False:=eq_false (by omega)
  have hle:((R.take i).eraseIdx p).length≤R.length:=by
   have:=List.length_eraseIdx_le (R.take i) p
   rw [List.length_take] at this; omega
  rw [ed hi2 hip,ny,List.length_append,List.length_singleton] at nx
  generalize (R.take i).eraseIdx p=W at *
  have hap:=Cv (zs W) ((R.getD i 0:Nat):Int)
  rw [Xm] at hap
  refine X1 1000 ?_
  simp only [QI,X4,Xm,w1,f1,f2,f3,v1,g1,Int.toNat_natCast,↓X2,wA,seval,wE]
  exact ⟨⟨by omega,by omega⟩,nx _ (by omega) (by omega) (Xa rfl (by simp [Xh,QI,X4,Xm,I]) (by simp [Xi]) (by rw [← hap]; simp [X4,Xm,I]))⟩
theorem tJ {a b:Int} (h:a<b):(a<b)=True:=eq_true h
theorem sS {a b:Int} (h:b≤a):(a<b)=False:=eq_false (by omega)
theorem tI {a b:Int} (h:a≤b):(a≤b)=True:=eq_true h
theorem sP {a b:Int} (h:b<a):(a≤b)=False:=eq_false (by omega)
theorem tH {a b:Int} (h:a=b):(a=b)=True:=eq_true h
theorem sN {a b:Int} (h:a≠b):(a=b)=False:=eq_false h
theorem tL {a b:Nat} (h:a<b):(a<b)=True:=eq_true h
theorem tg {a b:Nat} (h:b≤a):(a<b)=False:=eq_false (by omega)
theorem tK {a b:Nat} (h:a≤b):(a≤b)=True:=eq_true h
theorem tf {a b:Nat} (h:b<a):(a≤b)=False:=eq_false (by omega)
theorem t8 {a b:Nat} (h:a=b):(a=b)=True:=eq_true h
theorem t9 {a b:Nat} (h:a≠b):(a=b)=False:=eq_false h
theorem rE {x:Int} (h:-9223372036854775808≤x∧x<9223372036854775808):IntKind.i64.wrap x=x:=by rw [IntKind.wrap_i64]; omega
theorem sT {n:Nat}:(n:Int).toNat=n:=Int.toNat_natCast n
theorem sq (f:Nat→AV) (i:Nat) (v:AV) (j:Nat):Cs f i v j=if j=i then v else f j:=nrfl rfl
def ae (l:List AV) (i:Nat) (a:AV):Nat→AV:=Cs (Xq l) i a
def UI (x:AV) (f:Nat→AV):Nat→AV:=fun j=>match j with | 0=>x | j+1=>f j
theorem qJ (l:List AV) (i:Nat) (a:AV):Cs (Xq l) i a=ae l i a:=nrfl rfl
theorem qL (x a:AV) (l:List AV):ae (x :: l) 0 a=Xq (a :: l):=by
 funext j; unfold ae Cs Xq; cases j <;> simp
theorem qK (x a:AV) (l:List AV) (n:Nat):ae (x :: l) (n+1) a=UI x (ae l n a):=by
 funext j; unfold ae Cs Xq UI; cases j <;> simp
theorem kH (x:AV) (l:List AV):UI x (Xq l)=Xq (x :: l):=by
 funext j; unfold Xq UI; cases j <;> simp
def sg (x:Rat):Bool:=decide (x.num<0)
theorem Xt (x:Rat):decide (x.num<0)=sg x:=nrfl rfl
set_option linter.defProp false in
def wD:=And.intro @sq (And.intro @qJ <| And.intro @qL <| And.intro @qK <| And.intro @kH <| And.intro @tJ (And.intro @sS (And.intro @tI (And.intro @sP (And.intro @tH (And.intro @sN (And.intro @tL (And.intro @tg (And.intro @tK (And.intro @tf (And.intro @t8 (And.intro @t9 (And.intro @rE @sT)))))))))))))
end
end Go.Ab.N
