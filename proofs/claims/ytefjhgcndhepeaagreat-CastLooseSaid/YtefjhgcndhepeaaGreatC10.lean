/- Contracts of functions of these chapters, for every argument that fits, and what they need. -/
import Derived.Test.YtefjhgcndhepeaaGreatC9
import Derived.Shelf.SlicesE.Delete
import Derived.Test.YtefjhgcndhepeaaGreatC3
import Derived.Test.YtefjhgcndhepeaaGreatC6
set_option linter.unusedSimpArgs false
set_option linter.unusedVariables false
open Nat renaming reducePow → Y1, reduceLT → Y2, reduceLeDiff → Y3, reduceEqDiff → Y4, reduceAdd → Y5, reduceMul → Y6, reduceSub → Y7, reduceBEq → Y8, reduceDiv → Y9, reduceMod → YA
namespace Go.Ab.N
open Go Go.RowKit Go.Proofs
noncomputable section
set_option maxRecDepth 10000
set_option maxHeartbeats 4000000
open Classical
def Xcw (p:V2→Bool):List V2→V2×Bool
 | []=>(v0,false)
 | x :: l=>if p x=true then (x,true) else Xcw p l
theorem X9K {p:V2→Bool}:∀ {s:List V2} {j:Nat},j<s.length→p (s.getD j v0)=true→(∀ i,i<j→p (s.getD i v0)=false)→Xcw p s=(s.getD j v0,true)
 | [],j,h,_,_=>absurd h (Nat.not_lt_zero j)
 | x :: l,0,_,h,_=>if_pos h
 | x :: l,j+1,hj,h,hno=>by
  have h0:p x=false:=hno 0 (by omega)
  have ih:=X9K (p:=p) (s:=l) (j:=j) (by simpa using hj) h (fun i hi=>hno (i+1) (by omega))
  show (if p x=true then (x,true) else Xcw p l)=_
  rw [if_neg (by rw [h0]; decide),ih]
  rfl
theorem X8m {p:V2→Bool}:∀ {s:List V2},(∀ i,i<s.length→p (s.getD i v0)=false)→Xcw p s=(v0,false)
 | [],_=>rfl
 | x :: l,hno=>by
  have h0:p x=false:=hno 0 (by simp)
  have ih:=X8m (p:=p) (s:=l) (fun i hi=>hno (i+1) (by simpa using hi))
  show (if p x=true then (x,true) else Xcw p l)=_
  rw [if_neg (by rw [h0]; decide),ih]
noncomputable def X59 (A B:List V2) (e:Rat):V2×Bool:=Xcw (fun d=>decide (XeW d A B e)) (X5B A B)
structure Shp (c:Nat) (A:List V2):Prop where
 small:X0Y A c
 pos:0<A.length
 len:A.length<10000
theorem XgH (A B:List V2) (e:Rat) (c:Nat) (ha:Shp c A) (hb:Shp c B) (h1:1≤c) (hc:c≤1000) (he:qb e≤10000):Fn Tryz.prog 244 [X0A A,X0A B,qA e] (.tup [vA (X59 A B e).1,.bool (X59 A B e).2]):=by
 obtain ⟨a1,a2,a3⟩:=ha
 obtain ⟨b1,b2,b3⟩:=hb
 obtain ⟨R,hR⟩:∃ R,R=X59 A B e:=⟨_,rfl⟩
 rw [← hR]
 have cd:=XnX A B c a1 b1 (by omega) (by omega) (by omega)
 have hds:=Xbe A B c a1 b1 h1
 unfold X59 at hR
 have hlen:(X5B A B).length=A.length+B.length+4:=by unfold X5B; rw [List.length_append,List.length_append,X63,X8i]; rfl
 generalize X5B A B=D at *
 have be:X1j 2 (.row 0 4 (ofL (qC e)))=True:=eq_true (X0B (by simp [qC,X07,X02]))
 have bz:X1j 2 (.row 0 8 (ofL X0R))=True:=eq_true (X0B (X33 [] [] ⟨0,0,0,0,0,v0,v0,v0⟩ 0))
 have bA:Bel 2 (X0A A)=True:=eq_true (X06 (X0b A))
 have bB:Bel 2 (X0A B)=True:=eq_true (X06 (X0b B))
 have bD:Bel 2 (X0A D)=True:=eq_true (X06 (X0b D))
 refine Fq Tryz.call244 Tryz.func244 10 [12,13,14] [] [] (by simp [X0b,X0a]) (X00 1000 ?_)
 simp only [AS.start,X05,↓X03,wA,seval,wE]
 refine X01 cd rfl ?_
 simp only [X05,↓X03,wA,seval,wE]
 refine X0d (fun i:Nat=>⟨10,[12,13,14],[X0A A,X0A B,.any,.any,.any,.ref 0 0 0,.ref 1 0 0,.bool false,.any,.any],[(12,X0A D),(13,I D.length),(14,I i)],[.row 0 4 (ofL (qC e)),.row 0 8 (ofL X0R)]⟩) (fun i=>i≤D.length∧∀ j,j<i→decide (XeW (D.getD j v0) A B e)=false) (fun i=>D.length - i) 0 ⟨by omega,by omega⟩
  (X09 rfl (by simp [X0p,X05,I]) (by simp [X0q,X0P,X05,I]) (by simp [qC,X0R,X04])) ?_
 rintro i ⟨hi,hno⟩ next
 have w1:=wj i (by omega)
 by_cases hi2:i<D.length
 rotate_left
 ·obtain rfl:i=D.length:=by omega
  rw [X8m hno] at hR
  refine X00 1000 ?_
  simp only [X05,X0R,Int.lt_irrefl,Nat.lt_irrefl,↓X03,wA,seval,wE]
  subst hR
  exact X1s rfl (X0l X2z rfl rfl rfl) (by unfold X1F; rfl) (X0n (X0k _) (X0I X3B)) ((X02 _).sees _)
 have f1:((i:Int)<D.length)=True:=eq_true (by omega)
 have f2:(i<D.length)=True:=eq_true hi2
 have f3:(i*8+8≤D.length*8)=True:=eq_true (by omega)
 have v1:=vF D i
 have hs:=hds _ (X82 hi2)
 have cs:=XeL (D.getD i v0) A B e c a1 b1 (by omega) (by omega) (by omega) a2 b2 (by omega) he
 have nx:=next (i+1)
 refine X00 1000 ?_
 simp only [X05,w1,f1,f2,f3,v1,Int.toNat_natCast,↓X03,wA,seval,wE]
 refine X01 cs rfl ?_
 by_cases hsep:XeW (D.getD i v0) A B e
 ·have hd:decide (XeW (D.getD i v0) A B e)=true:=decide_eq_true hsep
  rw [hd]
  rw [X9K hi2 hd hno] at hR
  simp only [X05,X0R,w1,f1,f2,f3,v1,Int.toNat_natCast,↓X03,wA,seval,wE]
  subst hR
  exact X1s rfl (X0l X2z rfl rfl rfl) (by unfold X1F; rfl) (X0n (X0k _) (X0I (X0X (vC (D.getD i v0))))) ((X02 _).sees _)
 ·have hd:decide (XeW (D.getD i v0) A B e)=false:=decide_eq_false hsep
  rw [hd]
  simp only [w1,↓X03,wA,seval,wE]
  exact nx _ ⟨by omega,X2t.2 ⟨hno,hd⟩⟩ (by omega) (X0t (m:=2) (Nat.zero_le _) rfl (by simp [X0p,X05,I]) (by simp [X0q,X0P,X05,I]) (by simp [qC,X0R,X04]) (by simp [X0L,bA,bB,bD]) (by simp [X0L,bD]) (by simp [be,bz]))
theorem Xq5 (A B:List V2) (e:Rat) (c:Nat) (ha:Shp c A) (hb:Shp c B) (h1:1≤c) (hc:c≤1000) (he:qb e≤10000):Fn Tryz.prog 248 [X0A A,X0A B,qA e] (.tup [vA (X59 A B e).1,.bool (X59 A B e).2]):=by
 obtain ⟨a1,a2,a3⟩:=ha
 obtain ⟨b1,b2,b3⟩:=hb
 obtain ⟨R,hR⟩:∃ R,R=X59 A B e:=⟨_,rfl⟩
 rw [← hR]
 have cd:=Xq1 A B c a1 b1 (by omega) (by omega) (by omega)
 have hds:=Xbe A B c a1 b1 h1
 unfold X59 at hR
 have hlen:(X5B A B).length=A.length+B.length+4:=by unfold X5B; rw [List.length_append,List.length_append,X63,X8i]; rfl
 generalize X5B A B=D at *
 have be:X1j 2 (.con 0 4 (ofL (qC e)))=True:=eq_true (fun j _=>X06 (X0c (by simp [qC,X07,X02]) j))
 have bz:X1j 2 (.row 0 8 (ofL X0R))=True:=eq_true (X0B (X33 [] [] ⟨0,0,0,0,0,v0,v0,v0⟩ 0))
 have bA:Bel 2 (X0A A)=True:=eq_true (X06 (X0b A))
 have bB:Bel 2 (X0A B)=True:=eq_true (X06 (X0b B))
 have bD:Bel 2 (X0A D)=True:=eq_true (X06 (X0b D))
 refine Fq Tryz.call248 Tryz.func248 10 [] [5,60000005] [] (by simp [X0b,X0a]) (X00 1000 ?_)
 simp only [AS.start,X05,↓X03,wA,seval,wE]
 refine X01 cd rfl ?_
 simp only [X05,↓X03,wA,seval,wE]
 refine X0d (fun i:Nat=>⟨10,[],[X0A A,X0A B,.any,.any,.any,.ref 0 0 0,.ref 1 0 0,.bool false,X0A D,I i],[],[.con 0 4 (ofL (qC e)),.row 0 8 (ofL X0R)]⟩) (fun i=>i≤D.length∧∀ j,j<i→decide (XeW (D.getD j v0) A B e)=false) (fun i=>D.length - i) 0 ⟨by omega,by omega⟩
  (Sub.trans (X1a 0 rfl) (X09 rfl (by simp [X0p,X05,I]) (by simp [X0q]) (by simp [qC,X0R,X04]))) ?_
 rintro i ⟨hi,hno⟩ next
 have w1:=wj i (by omega)
 by_cases hi2:i<D.length
 rotate_left
 ·obtain rfl:i=D.length:=by omega
  rw [X8m hno] at hR
  refine X00 1000 ?_
  simp only [X05,X0R,Int.lt_irrefl,Nat.lt_irrefl,↓X03,wA,seval,wE]
  subst hR
  exact X1s rfl (X0l X2z rfl rfl rfl) (by unfold X1F; rfl) (X0n (X0k _) (X0I X3B)) ((X02 _).sees _)
 have f1:((i:Int)<D.length)=True:=eq_true (by omega)
 have f2:(i<D.length)=True:=eq_true hi2
 have f3:(i*8+8≤D.length*8)=True:=eq_true (by omega)
 have v1:=vF D i
 have hs:=hds _ (X82 hi2)
 have cs:=Xd9 (D.getD i v0) A B e c a1 b1 (by omega) (by omega) (by omega) a2 b2 (by omega) he
 have nx:=next (i+1)
 refine X00 1000 ?_
 simp only [X05,w1,f1,f2,f3,v1,Int.toNat_natCast,↓X03,wA,seval,wE]
 refine X01 cs rfl ?_
 by_cases hsep:XeW (D.getD i v0) A B e
 ·have hd:decide (XeW (D.getD i v0) A B e)=true:=decide_eq_true hsep
  rw [hd]
  rw [X9K hi2 hd hno] at hR
  simp only [X05,X0R,w1,f1,f2,f3,v1,Int.toNat_natCast,↓X03,wA,seval,wE]
  subst hR
  exact X1s rfl (X0l X2z rfl rfl rfl) (by unfold X1F; rfl) (X0n (X0k _) (X0I (X0X (vC (D.getD i v0))))) ((X02 _).sees _)
 ·have hd:decide (XeW (D.getD i v0) A B e)=false:=decide_eq_false hsep
  rw [hd]
  simp only [w1,↓X03,wA,seval,wE]
  exact nx _ ⟨by omega,X2t.2 ⟨hno,hd⟩⟩ (by omega) (X0t (m:=2) (Nat.zero_le _) rfl (by simp [X0p,X05,I]) (by simp [X0q]) (by simp [qC,X0R,X04]) (by simp [X0L,bA,bB,bD]) (by simp [X0L,bD]) (by simp [be,bz]))
noncomputable def vss (l:List (List V2)):AV:=sl1 X0A [] l
theorem X0z (l:List (List V2)):vss l=.sl l.length l.length (slF X0A [] l) false:=nrfl rfl
theorem X2j (l:List (List V2)):Settled (vss l):=X1J fun _ _=>X0b _
theorem slv (l:List (List V2)) (i:Nat):slF X0A [] l i=X0A (l.getD i []):=nrfl rfl
noncomputable def X40 (A B:List (List V2)) (e:Rat) (i k:Nat):Bool:=(X59 (A.getD i []) (B.getD k []) e).2
noncomputable def Xkn (A B:List (List V2)) (e:Rat) (i:Nat):Bool:=decide (∀ k,k<B.length→X40 A B e i k=true)
noncomputable def XgJ (A B:List (List V2)) (e:Rat):Bool:=decide (∀ i,i<A.length→Xkn A B e i=true)
theorem Xko {A B:List (List V2)} {e:Rat} {i k:Nat} (h:k<B.length) (hp:X40 A B e i k=false):Xkn A B e i=false :=
 decide_eq_false fun H=>by rw [H k h] at hp; cases hp
theorem Xs8 {A B:List (List V2)} {e:Rat} {i:Nat} (h:i<A.length) (hp:Xkn A B e i=false):XgJ A B e=false :=
 decide_eq_false fun H=>by rw [H i h] at hp; cases hp
theorem Xub (A B:List (List V2)) (e:Rat) (c:Nat) (ha:∀ i,i<A.length→Shp c (A.getD i [])) (hb:∀ i,i<B.length→Shp c (B.getD i [])) (h1:1≤c) (hc:c≤1000) (he:qb e≤10000) (la:A.length≤1000) (lb:B.length≤1000) :
  Fn Tryz.prog 214 [vss A,vss B,qA e] (.tup [.any,.bool (XgJ A B e)]):=by
 have hvc:∀ a:V2,∀ x∈vC a,Settled x:=fun a=>by simp [vC,X07,X02]
 have be:X1j 2 (.con 0 4 (ofL (qC e)))=True:=eq_true (fun j _=>X06 (X0c (by simp [qC,X07,X02]) j))
 have bA:Bel 2 (vss A)=True:=eq_true (X06 (X2j A))
 have bB:Bel 2 (vss B)=True:=eq_true (X06 (X2j B))
 have br:∀ i l n,X1j 2 (.row i n (X0M vC 8 v0 l))=True:=fun i l n=>eq_true fun j _=>X06 (X0c (hvc _) _)
 have vA':=fun i=>slv A i
 have vB':=fun i=>slv B i
 refine Fq Tryz.call214 Tryz.func214 13 [] [8,90000005] [] (by simp [X2j,X0a]) (X00 1000 ?_)
 simp only [AS.start,X0z,↓X03,wA,seval,wE]
 refine X0d (fun w:Nat×List V2=>⟨13,[],[vss A,vss B,.any,.any,.any,.ref 0 0 0,.any,.any,.osl 1 w.2.length 8 0 w.2.length,I w.1,.any,.any,.any],[],[.con 0 4 (ofL (qC e)),.row w.2.length (w.2.length*8) (X0M vC 8 v0 w.2)]⟩) (fun w=>w.1≤A.length∧w.2.length=w.1*B.length∧∀ j,j<w.1→Xkn A B e j=true) (fun w=>A.length - w.1) (0,[]) ⟨by simp,by simp,fun j hj=>absurd hj (Nat.not_lt_zero j)⟩
  (Sub.trans (X1a 0 rfl) (Sub.trans (X0W 8 8 (X0M vC 8 v0 []) rfl) (X09 rfl (by simp [AS.put,X0p,X0z,I]) (by simp [X0q]) (by simp [qC,X04])))) ?_
 rintro ⟨i,W⟩ ⟨hi,hW,hno⟩ next
 replace hi:i≤A.length:=hi
 replace hW:W.length=i*B.length:=hW
 replace hno:∀ j,j<i→Xkn A B e j=true:=hno
 have w1:=wj i (by omega)
 by_cases hi2:i<A.length
 rotate_left
 ·obtain rfl:i=A.length:=by omega
  have hR:XgJ A B e=true:=decide_eq_true hno
  rw [hR]
  refine X00 1000 ?_
  simp only [X0z,Int.lt_irrefl,Nat.lt_irrefl,↓X03,wA,seval,wE]
  exact XrA rfl (X3G ⟨X0n X3v (X9r _),(X02 _).sees _,trivial⟩)
 have f1:((i:Int)<A.length)=True:=eq_true (by omega)
 have f2:(i<A.length)=True:=eq_true hi2
 have f3:(i+1≤A.length)=True:=eq_true (by omega)
 refine X00 1000 ?_
 simp only [X0z,w1,f1,f2,f3,↓X03,wA,seval,wE]
 refine X0d (fun w:Nat×List V2=>⟨13,[],[vss A,vss B,.any,.any,.any,.ref 0 0 0,.any,.any,.osl 1 w.2.length 8 0 w.2.length,I i,I w.1,.any,.any],[],[.con 0 4 (ofL (qC e)),.row w.2.length (w.2.length*8) (X0M vC 8 v0 w.2)]⟩) (fun w=>w.1≤B.length∧w.2.length=i*B.length+w.1∧∀ k,k<w.1→X40 A B e i k=true) (fun w=>B.length - w.1) (0,W) ⟨by simp,by simpa using hW,fun j hj=>absurd hj (Nat.not_lt_zero j)⟩
  (X09 rfl (by simp [X0p,X0z,I]) (by simp [X0q]) (by simp [qC,X04])) ?_
 rintro ⟨k,Y⟩ ⟨hk,hY,hyes⟩ next2
 replace hk:k≤B.length:=hk
 replace hY:Y.length=i*B.length+k:=hY
 replace hyes:∀ j,j<k→X40 A B e i j=true:=hyes
 have w2:=wj k (by omega)
 by_cases hk2:k<B.length
 rotate_left
 ·obtain rfl:k=B.length:=by omega
  have nx:=next (i+1,Y)
  refine X00 1000 ?_
  simp only [X0z,w1,Int.lt_irrefl,Nat.lt_irrefl,↓X03,wA,seval,wE]
  exact nx _ ⟨by omega,by simp only; rw [hY,Nat.succ_mul],X2t.2 ⟨hno,decide_eq_true hyes⟩⟩ (by simp only; omega) (X09 rfl (by simp [X0p,X0z,I]) (by simp [X0q]) (by simp [qC,X04]))
 have g1:((k:Int)<B.length)=True:=eq_true (by omega)
 have g2:(k<B.length)=True:=eq_true hk2
 have g3:(k+1≤B.length)=True:=eq_true (by omega)
 have cf:=Xq5 (A.getD i []) (B.getD k []) e c (ha i hi2) (hb k hk2) h1 hc he
 have hb1:i*B.length≤1000*1000:=Nat.mul_le_mul (by omega) lb
 have hap:=X0E vC 8 v0 Y (X59 (A.getD i []) (B.getD k []) e).1 (by omega)
 refine X00 1000 ?_
 simp only [X0z,w1,w2,f1,f2,f3,g1,g2,g3,vA',vB',Int.toNat_natCast,↓X03,wA,seval,wE]
 refine X01 cf rfl ?_
 have hpk:X40 A B e i k=(X59 (A.getD i []) (B.getD k []) e).2:=rfl
 cases hv:(X59 (A.getD i []) (B.getD k []) e).2 with
 | false =>
  have hR:XgJ A B e=false:=Xs8 hi2 (Xko hk2 (hpk.trans hv))
  rw [hR]
  simp only [w1,w2,↓X03,wA,seval,wE]
  exact XrA rfl (X3G ⟨X0n X3v (X9r _),(X02 _).sees _,trivial⟩)
 | true =>
  have nx:=next2 (k+1,Y ++ [(X59 (A.getD i []) (B.getD k []) e).1])
  simp only [List.length_append,List.length_singleton] at nx
  simp only [w1,w2,↓X03,wA,seval,wE]
  exact ⟨⟨X42 _,by omega,by omega⟩,nx _ ⟨by omega,by omega,X2t.2 ⟨hyes,hpk.trans hv⟩⟩ (by omega) (X0t (m:=2) (Nat.zero_le _) rfl (by simp [X0p,X0z,I]) (by simp [X0q]) (by rw [← hap]; rfl) (by simp [X0L,bA,bB]) (by simp [X0L]) (by simp [be,br]))⟩
def X6O (A:List (List V2)):AV:=.ptr 1 (ofL [vss A]) 0
theorem X1A (A:List (List V2)):X6O A=.ptr 1 (ofL [vss A]) 0:=nrfl rfl
theorem X8T (A:List (List V2)):Settled (X6O A):=X1N fun j hj=>by
 obtain rfl:j=0:=by omega
 exact X2j A
theorem XpN (A B:List (List V2)):Fn Tryz.prog 243 [vss A,vss B] (.fn 260 [X6O A,X6O B]):=by
 have hset:Settled (.fn 260 [X6O A,X6O B]):=X2p (by
  intro a ha
  simp only [List.mem_cons,List.not_mem_nil,or_false] at ha
  rcases ha with rfl | rfl <;> exact X8T _)
 refine Fq Tryz.call243 Tryz.func243 5 [] [] [] (by simp [X2j]) (X00 1000 ?_)
 simp only [AS.start,X0z,↓X03,wA,seval,wE]
 refine X8R rfl (X8w ⟨X4O (.inl rfl) (by omega) fun j hj=>?_,X4O (.inl rfl) (by omega) fun j hj=>?_,trivial⟩)
 ·obtain rfl:j=0:=by omega
  exact (X2j A).sees _
 ·obtain rfl:j=0:=by omega
  exact (X2j B).sees _
theorem X97 {P:Program} {tok:List Tok} {all:Array Oper} {i:Nat} {s:AS} {o:Oper} {v:AV} {h':List AO} (ho:all[i]?=some o) (hg:o.guard=none) (h:aop P false none o.op s.ev s.h=some (v,h')) :
  GStep P tok (fun _=>false) true (fun _=>none) all i s (({ s with h:=h' }:AS).putO o.dst v):=⟨o,ho,.inl ⟨by unfold gval; rw [hg],⟨fun _ h=>(by cases h),v,h',.inl h,rfl⟩⟩⟩
def Xv3 (m:Nat) (H:List AO):Prop:=H.length=m∧∀ o∈H,X1j m o∧o≠.unborn∧∀ v n f,o≠.con v n f
theorem Xjm (A B:List (List V2)) (t:Tok) (m:Nat) (Hs:Nat→List AO) (la:A.length≤1000) (lb:B.length≤1000) (hHs:∀ n,Xv3 m (Hs n)) (hce:t.ce.H.length≤m)
  (hy:∀ i k,i<A.length→k<B.length→YCall Tryz.prog t [X0A (A.getD i []),X0A (B.getD k [])] (Hs (i*B.length+k)) (.bool true) (Hs (i*B.length+k+1))) :
  ICall Tryz.prog t 260 [.yld t.l,X6O A,X6O B] (Hs 0) (Hs (A.length*B.length)):=by
 have vA':=fun i=>slv A i
 have vB':=fun i=>slv B i
 refine ICall.intro (fn:=Tryz.f260) Tryz.call260 Tryz.func260 rfl mixed 8 [8,9,10,14,15,16] [] [] (by kernel_rfl) (Nat.le_of_ble_eq_true rfl) (by rw [(hHs 0).1]; exact hce) (by rw [(hHs 0).1]; exact fun o ho=>((hHs _).2 o ho).1) (X00 1000 ?_)
 simp only [AS.start,X1A,X0z,↓X03,wA,seval,wE]
 refine X0d (fun i:Nat=>⟨8,[8,9,10,14,15,16],[.yld t.l,X6O A,X6O B,.any,.any,.any,.any,.any],[(8,vss A),(9,I A.length),(10,I i)],Hs (i*B.length)⟩) (fun i=>i≤A.length) (fun i=>A.length - i) 0 (by omega)
  (X09 rfl (by simp [X0p,X1A,X0z]) (by simp [X0q,X0P,X0z,I]) (by simp)) ?_
 intro i hi next
 have w1:=wj i (by omega)
 by_cases hi2:i<A.length
 rotate_left
 ·obtain rfl:i=A.length:=by omega
  refine X00 1000 ?_
  simp only [X1A,X0z,Int.lt_irrefl,Nat.lt_irrefl,↓X03,wA,seval,wE]
  exact retI rfl (by show (Hs _).take (Hs 0).length=_; rw [(hHs 0).1,← (hHs (A.length*B.length)).1,List.take_length])
 have f1:((i:Int)<A.length)=True:=eq_true (by omega)
 have f2:(i<A.length)=True:=eq_true hi2
 have f3:(i+1≤A.length)=True:=eq_true (by omega)
 refine X00 1000 ?_
 simp only [X1A,X0z,w1,f1,f2,f3,vA',Int.toNat_natCast,↓X03,wA,seval,wE]
 refine X0d (fun k:Nat=>⟨8,[8,9,10,14,15,16],[.yld t.l,X6O A,X6O B,.any,.any,X0A (A.getD i []),.any,.any],[(14,vss B),(15,I B.length),(16,I k),(8,vss A),(9,I A.length),(10,I i)],Hs (i*B.length+k)⟩) (fun k=>k≤B.length) (fun k=>B.length - k) 0 (by omega)
  (X09 rfl (by simp [X0p,X1A,X0z,X05]) (by simp [X0q,X0P,X0z,I]) (by simp)) ?_
 intro k hk next2
 have w2:=wj k (by omega)
 by_cases hk2:k<B.length
 rotate_left
 ·obtain rfl:k=B.length:=by omega
  refine X00 1000 ?_
  simp only [X1A,X0z,w1,Int.lt_irrefl,Nat.lt_irrefl,↓X03,wA,seval,wE]
  exact next (i+1) _ (by omega) (by omega) (X09 rfl (by simp [X0p,X1A,X0z]) (by simp [X0q,X0P,X0z,I]) (by simp [Nat.succ_mul]))
 have g1:((k:Int)<B.length)=True:=eq_true (by omega)
 have g2:(k<B.length)=True:=eq_true hk2
 have g3:(k+1≤B.length)=True:=eq_true (by omega)
 refine X00 1000 ?_
 simp only [X1A,X0z,w1,w2,g1,g2,g3,vB',Int.toNat_natCast,↓X03,wA,seval,wE]
 obtain ⟨q1,q2⟩:=hHs (i*B.length+k)
 obtain ⟨q3,q4⟩:=hHs (i*B.length+k+1)
 refine X8c (t:=t) (H1:=Hs (i*B.length+k)) (H1':=Hs (i*B.length+k+1)) (rest:=[]) rfl rfl (List.mem_singleton.2 rfl) (hy i k hi2 hk2) (List.append_nil _).symm (q3.trans q1.symm) (by rw [q1]; exact hce) ?_ (by rw [q1]; exact fun o ho=>(q2 o ho).1) (fun o ho=>(q2 o ho).2.1) (fun o ho=>(q4 o ho).2.1) (X1V (fun o ho=>(q2 o ho).2.2) (fun o ho=>(q4 o ho).2.2)) ⟨Weak.rfl' _,Weak.rfl' _,trivial⟩ ?_
 ·intro a ha
  simp only [List.mem_cons,List.not_mem_nil,or_false] at ha
  rcases ha with rfl | rfl <;> exact X06 (X0b _)
 simp only [X1A,X0z,w1,w2,↓X03,wA,seval,wE]
 exact next2 (k+1) _ (by omega) (by omega) (X09 rfl (by simp [X0p,X1A,X0z]) (by simp [X0q,X0P,X0z,I]) (by simp [Nat.add_assoc]))
theorem Xmh (A B:List (List V2)) (t:Tok) (m:Nat) (Hs:Nat→List AO) (Hf:List AO) (la:A.length≤1000) (lb:B.length≤1000) (hHs:∀ n,Xv3 m (Hs n)) (hce:t.ce.H.length≤m)
  (i0 k0:Nat) (hi0:i0<A.length) (hk0:k0<B.length) (hy:∀ i k,i<i0∨i=i0∧k<k0→k<B.length→YCall Tryz.prog t [X0A (A.getD i []),X0A (B.getD k [])] (Hs (i*B.length+k)) (.bool true) (Hs (i*B.length+k+1))) (hz:YC Tryz.prog t false [X0A (A.getD i0 []),X0A (B.getD k0 [])] (Hs (i0*B.length+k0)) Hf) (hHf:Xv3 m Hf) :
  ICallQ Tryz.prog t false 260 [.yld t.l,X6O A,X6O B] (Hs 0) Hf:=by
 have vA':=fun i=>slv A i
 have vB':=fun i=>slv B i
 refine ICallQ.intro (fn:=Tryz.f260) Tryz.call260 Tryz.func260 rfl mixed 8 [8,9,10,14,15,16] [] [] (by kernel_rfl) (Nat.le_of_ble_eq_true rfl) (by rw [(hHs 0).1]; exact hce) (by rw [(hHs 0).1]; exact fun o ho=>(hHf.2 o ho).1) (X00 1000 ?_)
 simp only [AS.start,X1A,X0z,↓X03,wA,seval,wE]
 refine X0d (fun i:Nat=>⟨8,[8,9,10,14,15,16],[.yld t.l,X6O A,X6O B,.any,.any,.any,.any,.any],[(8,vss A),(9,I A.length),(10,I i)],Hs (i*B.length)⟩) (fun i=>i≤i0) (fun i=>i0 - i) 0 (by omega)
  (X09 rfl (by simp [X0p,X1A,X0z]) (by simp [X0q,X0P,X0z,I]) (by simp)) ?_
 intro i hi next
 have w1:=wj i (by omega)
 have hi2:i<A.length:=by omega
 have f1:((i:Int)<A.length)=True:=eq_true (by omega)
 have f2:(i<A.length)=True:=eq_true hi2
 have f3:(i+1≤A.length)=True:=eq_true (by omega)
 refine X00 1000 ?_
 simp only [X1A,X0z,w1,f1,f2,f3,vA',Int.toNat_natCast,↓X03,wA,seval,wE]
 refine X0d (fun k:Nat=>⟨8,[8,9,10,14,15,16],[.yld t.l,X6O A,X6O B,.any,.any,X0A (A.getD i []),.any,.any],[(14,vss B),(15,I B.length),(16,I k),(8,vss A),(9,I A.length),(10,I i)],Hs (i*B.length+k)⟩) (fun k=>k≤B.length∧(i=i0→k≤k0)) (fun k=>B.length - k) 0 ⟨by omega,by omega⟩
  (X09 rfl (by simp [X0p,X1A,X0z,X05]) (by simp [X0q,X0P,X0z,I]) (by simp)) ?_
 rintro k ⟨hk,hkk⟩ next2
 have w2:=wj k (by omega)
 by_cases hk2:k<B.length
 rotate_left
 ·obtain rfl:k=B.length:=by omega
  refine X00 1000 ?_
  simp only [X1A,X0z,w1,Int.lt_irrefl,Nat.lt_irrefl,↓X03,wA,seval,wE]
  exact next (i+1) _ (by omega) (by omega) (X09 rfl (by simp [X0p,X1A,X0z]) (by simp [X0q,X0P,X0z,I]) (by simp [Nat.succ_mul]))
 have g1:((k:Int)<B.length)=True:=eq_true (by omega)
 have g2:(k<B.length)=True:=eq_true hk2
 have g3:(k+1≤B.length)=True:=eq_true (by omega)
 by_cases hlast:i=i0∧k=k0
 ·obtain ⟨rfl,rfl⟩:=hlast
  refine X00 20 ?_
  simp only [X1A,X0z,w1,w2,g1,g2,g3,vB',Int.toNat_natCast,↓X03,wA,seval,wE]
  refine Xuj (t:=t) (j:=3) (l1:=[0,1,2]) (l2:=[4]) rfl rfl (List.mem_singleton.2 rfl) rfl rfl ⟨_,X97 rfl rfl rfl,_,X97 rfl rfl rfl,_,X97 rfl rfl rfl,rfl⟩ ⟨rfl,_,_,_,[X0A (A.getD i []),X0A (B.getD k [])],Hf,rfl,rfl,⟨Weak.rfl' _,Weak.rfl' _,trivial⟩,hz,rfl⟩ ⟨_,X97 rfl rfl rfl,rfl⟩ ?_
  show Run (envK Tryz.prog Tryz.f260 [] [] (Hs 0).length Hf) _ _
  refine Run.sub (s':=⟨8,[],[],[(24,.bool true)],Hf⟩) ?_ (X09 rfl trivial ⟨.inr rfl,trivial⟩ rfl)
  refine X00 1000 ?_
  simp only [↓X03,wA,seval,wE]
  exact retK rfl (by show Hf.take (Hs 0).length=_; rw [(hHs 0).1,← hHf.1,List.take_length])
 have hp:i<i0∨i=i0∧k<k0:=by omega
 refine X00 1000 ?_
 simp only [X1A,X0z,w1,w2,g1,g2,g3,vB',Int.toNat_natCast,↓X03,wA,seval,wE]
 obtain ⟨q1,q2⟩:=hHs (i*B.length+k)
 obtain ⟨q3,q4⟩:=hHs (i*B.length+k+1)
 refine X8c (t:=t) (H1:=Hs (i*B.length+k)) (H1':=Hs (i*B.length+k+1)) (rest:=[]) rfl rfl (List.mem_singleton.2 rfl) (hy i k hp hk2) (List.append_nil _).symm (q3.trans q1.symm) (by rw [q1]; exact hce) ?_ (by rw [q1]; exact fun o ho=>(q2 o ho).1) (fun o ho=>(q2 o ho).2.1) (fun o ho=>(q4 o ho).2.1) (X1V (fun o ho=>(q2 o ho).2.2) (fun o ho=>(q4 o ho).2.2)) ⟨Weak.rfl' _,Weak.rfl' _,trivial⟩ ?_
 ·intro a ha
  simp only [List.mem_cons,List.not_mem_nil,or_false] at ha
  rcases ha with rfl | rfl <;> exact X06 (X0b _)
 simp only [X1A,X0z,w1,w2,↓X03,wA,seval,wE]
 exact next2 (k+1) _ ⟨by omega,by omega⟩ (by omega) (X09 rfl (by simp [X0p,X1A,X0z]) (by simp [X0q,X0P,X0z,I]) (by simp [Nat.add_assoc]))
noncomputable def XxO (A B:List (List V2)) (e:Rat) (n:Nat):V2:=(X59 (A.getD (n / B.length) []) (B.getD (n % B.length) []) e).1
noncomputable def Xdo (A B:List (List V2)) (e:Rat) (n:Nat):List V2:=(List.range n).map (XxO A B e)
theorem XoL (A B:List (List V2)) (e:Rat) (n:Nat):(Xdo A B e n).length=n:=by unfold Xdo; rw [List.length_map,List.length_range]
theorem Xln (A B:List (List V2)) (e:Rat) (n:Nat):Xdo A B e (n+1)=Xdo A B e n ++ [XxO A B e n]:=by unfold Xdo; rw [List.range_succ,List.map_append]; rfl
theorem Xt0 (A B:List (List V2)) (e:Rat) (i k:Nat) (hk:k<B.length):XxO A B e (i*B.length+k)=(X59 (A.getD i []) (B.getD k []) e).1:=by
 unfold XxO
 rw [show i*B.length+k=k+B.length*i by rw [Nat.mul_comm,Nat.add_comm],Nat.add_mul_div_left _ _ (by omega),Nat.add_mul_mod_self_left,Nat.div_eq_of_lt hk,Nat.mod_eq_of_lt hk,Nat.zero_add]
def Xiz (e:Rat) (W:List V2):List AO:=[.row 0 4 (ofL (qC e)),.row 0 1 (ofL [.sl 0 0 (fun _=>.any) true]),.row 0 1 (ofL [.bool false]),.row 0 1 (ofL [.osl 4 W.length 8 0 W.length]),.row W.length (W.length*8) (X0M vC 8 v0 W)]
theorem Xcb (e:Rat) (W:List V2):Xiz e W=[.row 0 4 (ofL (qC e)),.row 0 1 (ofL [.sl 0 0 (fun _=>.any) true]),.row 0 1 (ofL [.bool false]),.row 0 1 (ofL [.osl 4 W.length 8 0 W.length]),.row W.length (W.length*8) (X0M vC 8 v0 W)]:=nrfl rfl
theorem Xf8 (e:Rat) (W:List V2):Xv3 5 (Xiz e W):=by
 have hvc:∀ a:V2,∀ x∈vC a,Settled x:=fun a=>by simp [vC,X07,X02]
 refine ⟨rfl,fun o ho=>?_⟩
 simp only [Xiz,List.mem_cons,List.not_mem_nil,or_false] at ho
 rcases ho with rfl | rfl | rfl | rfl | rfl
 ·exact ⟨by simp [qC,X0L],by simp,by simp⟩
 ·exact ⟨by simp [X0L],by simp,by simp⟩
 ·exact ⟨by simp [X0L],by simp,by simp⟩
 ·exact ⟨by simp [X0L],by simp,by simp⟩
 ·exact ⟨fun j _=>X06 (X0c (hvc _) _),by simp,by simp⟩
theorem XwS {p:Nat→Prop}:∀ n,p n→∃ n,p n∧∀ m,m<n→¬ p m:=by
 intro n
 induction n using Nat.strongRecOn with
 | ind n ih =>
  intro h
  by_cases hm:∃ m,m<n∧p m
  ·obtain ⟨m,h1,h2⟩:=hm
   exact ih m h1 h2
  ·exact ⟨n,h,fun m hm' hp=>hm ⟨m,hm',hp⟩⟩
def Xva (e:Rat) (W:List V2):List AO:=[.row 0 4 (ofL (qC e)),.row 0 1 (ofL [.sl 0 0 (fun _=>.any) false]),.row 0 1 (ofL [.bool false]),.row 0 1 (ofL [.osl 4 W.length 8 0 W.length]),.row W.length (W.length*8) (X0M vC 8 v0 W)]
theorem XgL (e:Rat) (W:List V2):Xva e W=[.row 0 4 (ofL (qC e)),.row 0 1 (ofL [.sl 0 0 (fun _=>.any) false]),.row 0 1 (ofL [.bool false]),.row 0 1 (ofL [.osl 4 W.length 8 0 W.length]),.row W.length (W.length*8) (X0M vC 8 v0 W)]:=nrfl rfl
theorem Xkp (e:Rat) (W:List V2):Xv3 5 (Xva e W):=by
 have hvc:∀ a:V2,∀ x∈vC a,Settled x:=fun a=>by simp [vC,X07,X02]
 refine ⟨rfl,fun o ho=>?_⟩
 simp only [Xva,List.mem_cons,List.not_mem_nil,or_false] at ho
 rcases ho with rfl | rfl | rfl | rfl | rfl
 ·exact ⟨by simp [qC,X0L],by simp,by simp⟩
 ·exact ⟨by simp [X0L],by simp,by simp⟩
 ·exact ⟨by simp [X0L],by simp,by simp⟩
 ·exact ⟨by simp [X0L],by simp,by simp⟩
 ·exact ⟨fun j _=>X06 (X0c (hvc _) _),by simp,by simp⟩
theorem Xiy {A B:List (List V2)} {e:Rat} (h:XgJ A B e=false):∃ i k,i<A.length∧k<B.length∧X40 A B e i k=false∧∀ j l,(j<i∨j=i∧l<k)→l<B.length→X40 A B e j l=true:=by
 have h1:¬ ∀ i,i<A.length→Xkn A B e i=true:=fun H=>by
  have:XgJ A B e=true:=decide_eq_true H
  rw [h] at this; cases this
 have h2:∃ i,i<A.length∧Xkn A B e i=false:=by
  apply Classical.byContradiction
  intro H
  refine h1 fun i hi=>?_
  cases hp:Xkn A B e i with
  | true=>rfl
  | false=>exact absurd ⟨i,hi,hp⟩ H
 obtain ⟨i',hi'⟩:=h2
 obtain ⟨i,⟨hi,hp⟩,hmin⟩:=XwS (p:=fun i=>i<A.length∧Xkn A B e i=false) i' hi'
 have h4:∃ k,k<B.length∧X40 A B e i k=false:=by
  apply Classical.byContradiction
  intro H
  have:Xkn A B e i=true:=decide_eq_true fun k hk=>by
   cases hq:X40 A B e i k with
   | true=>rfl
   | false=>exact absurd ⟨k,hk,hq⟩ H
  rw [hp] at this; cases this
 obtain ⟨k',hk'⟩:=h4
 obtain ⟨k,⟨hk,hq⟩,hmin2⟩:=XwS (p:=fun k=>k<B.length∧X40 A B e i k=false) k' hk'
 refine ⟨i,k,hi,hk,hq,fun j l hjl hl=>?_⟩
 cases hv:X40 A B e j l with
 | true=>rfl
 | false =>
  rcases hjl with hj | ⟨rfl,hlk⟩
  ·exact absurd ⟨by omega,Xko hl hv⟩ (hmin j hj)
  ·exact absurd ⟨hl,hv⟩ (hmin2 l hlk)
theorem XrW (A B:List (List V2)) (e:Rat) (c:Nat) (ha:∀ i,i<A.length→Shp c (A.getD i [])) (hb:∀ i,i<B.length→Shp c (B.getD i [])) (h1:1≤c) (hc:c≤1000) (he:qb e≤10000) (la:A.length≤1000) (lb:B.length≤1000) :
  Fn Tryz.prog 201 [vss A,vss B,qA e] (.tup [.any,.bool (XgJ A B e)]):=by
 have cp:=XpN A B
 obtain ⟨R,hR⟩:∃ R,R=XgJ A B e:=⟨_,rfl⟩
 rw [← hR]
 have s15:Settled (.fn 260 [X6O A,X6O B]):=X2p (by
  intro a ha
  simp only [List.mem_cons,List.not_mem_nil,or_false] at ha
  rcases ha with rfl | rfl <;> exact X8T _)
 refine Fq Tryz.call201 Tryz.func201 13 [16,17] [] [] (by simp [X2j,X0a]) (X00 1000 ?_)
 simp only [AS.start,X0z,↓X03,wA,seval,wE]
 refine X01 cp rfl ?_
 simp only [X0z,↓X03,wA,seval,wE]
 refine Run.sub (s':=⟨13,[16,17],[.any,.any,.any,.any,.any,.ref 0 0 0,.ref 1 0 0,.ref 2 0 0,.ref 3 0 0,.any,.any,.any,.any],[(15,.fn 260 [X6O A,X6O B])],Xiz e []⟩) ?_ ((X1v 3 1 (fun _=>.sl 0 0 (fun _=>.any) true) rfl (Nat.le_refl _) (fun j hj=>by have e:j=0:=Nat.lt_one_iff.1 hj; subst e; rfl)).trans ((X5u 3 8 (X0M vC 8 v0 []) rfl 1 (Nat.le_refl _)).trans ((X1v 3 1 (ofL [.osl 4 0 8 0 0]) rfl (Nat.le_refl _) (fun j hj=>by have e:j=0:=Nat.lt_one_iff.1 hj; subst e; rfl)).trans (X09 rfl (by simp [X0p]) (by simp [X0q,X0P]) (by simp [Xiz,qC,X04])))))
 have hb1:∀ i k,i<A.length→k<B.length→i*B.length+k<1000*1000:=fun i k hi hk=>by
  have h2:i*B.length+B.length≤A.length*B.length:=by rw [← Nat.succ_mul]; exact Nat.mul_le_mul_right _ hi
  have h3:A.length*B.length≤1000*1000:=Nat.mul_le_mul la lb
  omega
 have hN:∃ N,(R=true∧N=A.length*B.length∧∀ i k,i<A.length→k<B.length→X40 A B e i k=true)∨(R=false∧∃ i0 k0,N=i0*B.length+k0∧i0<A.length∧k0<B.length∧X40 A B e i0 k0=false∧∀ j l,(j<i0∨j=i0∧l<k0)→l<B.length→X40 A B e j l=true):=by
  cases hq:XgJ A B e with
  | true =>
   have h2:=of_decide_eq_true hq
   exact ⟨_,.inl ⟨hR.trans hq,rfl,fun i k hi hk=>of_decide_eq_true (h2 i hi) k hk⟩⟩
  | false =>
   obtain ⟨i0,k0,g1,g2,g3,g4⟩:=Xiy hq
   exact ⟨_,.inr ⟨hR.trans hq,i0,k0,rfl,g1,g2,g3,g4⟩⟩
 obtain ⟨N,hN⟩:=hN
 refine X6L R (gf:=260) (caps:=[X6O A,X6O B]) (Hn:=cond R (Xiz e (Xdo A B e N)) (Xva e (Xdo A B e N))) rfl rfl rfl (fun t ht=>?_) ?_
 ·have yT:∀ i k,i<A.length→k<B.length→X40 A B e i k=true→YCall Tryz.prog t [X0A (A.getD i []),X0A (B.getD k [])] (Xiz e (Xdo A B e (i*B.length+k))) (.bool true) (Xiz e (Xdo A B e (i*B.length+k+1))):=fun i k hi hk hp=>by
   have cf:=XgH (A.getD i []) (B.getD k []) e c (ha i hi) (hb k hk) h1 hc he
   rw [show (X59 (A.getD i []) (B.getD k []) e).2=true from hp] at cf
   have hd:=Xt0 A B e i k hk
   have hlt:=hb1 i k hi hk
   have hs:=Xln A B e (i*B.length+k)
   have hl:=XoL A B e (i*B.length+k)
   rw [hs,hd]
   generalize Xdo A B e (i*B.length+k)=W at *
   generalize (X59 (A.getD i []) (B.getD k []) e).1=d at *
   have hap:=X0E vC 8 v0 W d (by omega)
   refine XaI (str:=[]) (hcs:=[]) ht mixed (by kernel_rfl) (by kernel_rfl) rfl (fun p hp=>?_) (fun o ho=>((Xf8 e _).2 o ho).1) (fun l r hr=>?_)
   ·have hp':p=16∨p=17:=by simpa using hp
    rcases hp' with rfl | rfl <;> exact Nat.le_of_ble_eq_true rfl
   show Run _ _ ⟨13,[16,17],[.any,.any,.any,.any,.any,.ref 0 0 0,.ref 1 0 0,.ref 2 0 0,.ref 3 0 0,.any,.any,.any,.any],[(17,X0A (B.getD k [])),(16,X0A (A.getD i [])),(15,.fn 260 [X6O A,X6O B])],Xiz e W⟩
   refine X00 1000 ?_
   simp only [Xcb,↓X03,wA,seval,wE]
   refine Xbi hr ?_
   refine X00 1000 ?_
   simp only [↓X03,wA,seval,wE]
   refine X01 cf rfl ?_
   simp only [↓X03,wA,seval,wE]
   refine ⟨⟨X42 _,by omega,by omega⟩,retR ?_⟩
   rw [List.length_append,List.length_singleton,← hap]
   rfl
  have hce:t.ce.H.length≤5:=by rw [ht.ch]; exact Nat.le_refl _
  rcases hN with ⟨rfl,rfl,hall⟩ | ⟨rfl,i0,k0,rfl,hi0,hk0,hno,hyes⟩
  ·exact Xjm A B t 5 (fun n=>Xiz e (Xdo A B e n)) la lb (fun n=>Xf8 _ _) hce fun i k hi hk=>yT i k hi hk (hall i k hi hk)
  ·refine Xmh A B t 5 (fun n=>Xiz e (Xdo A B e n)) (Xva e (Xdo A B e (i0*B.length+k0))) la lb (fun n=>Xf8 _ _) hce i0 k0 hi0 hk0 (fun i k h hk=>yT i k (by omega) hk (hyes i k h hk)) ?_ (Xkp _ _)
   have cf:=XgH (A.getD i0 []) (B.getD k0 []) e c (ha i0 hi0) (hb k0 hk0) h1 hc he
   rw [show (X59 (A.getD i0 []) (B.getD k0 []) e).2=false from hno] at cf
   generalize Xdo A B e (i0*B.length+k0)=W at *
   generalize (X59 (A.getD i0 []) (B.getD k0 []) e).1=d at *
   refine XbW false (str:=[]) (hcs:=[]) ht mixed (by kernel_rfl) (by kernel_rfl) rfl (fun p hp=>?_) (fun o ho=>((Xkp e _).2 o ho).1) (fun l r hr=>?_)
   ·have hp':p=16∨p=17:=by simpa using hp
    rcases hp' with rfl | rfl <;> exact Nat.le_of_ble_eq_true rfl
   show Run (Xt3 _ _ _ _ _ _ _ _) _ ⟨13,[16,17],[.any,.any,.any,.any,.any,.ref 0 0 0,.ref 1 0 0,.ref 2 0 0,.ref 3 0 0,.any,.any,.any,.any],[(17,X0A (B.getD k0 [])),(16,X0A (A.getD i0 [])),(15,.fn 260 [X6O A,X6O B])],Xiz e W⟩
   refine X00 1000 ?_
   simp only [Xcb,XgL,↓X03,wA,seval,wE]
   refine Xj3 hr ?_
   refine X00 1000 ?_
   simp only [↓X03,wA,seval,wE]
   refine X01 cf rfl ?_
   simp only [↓X03,wA,seval,wE]
   exact retO rfl
 ·rcases hN with ⟨rfl,rfl,hall⟩ | ⟨rfl,i0,k0,rfl,hi0,hk0,hno,hyes⟩
  ·show Run _ _ ⟨13,[16,17],[.any,.any,.any,.any,.any,.ref 0 0 0,.ref 1 0 0,.ref 2 0 0,.ref 3 0 0,.any,.any,.any,.any],[(15,.fn 260 [X6O A,X6O B])],Xiz e (Xdo A B e (A.length*B.length))⟩
   generalize Xdo A B e (A.length*B.length)=W
   show Run _ (_ :: _) _
   refine X00 1000 ?_
   simp only [Xcb,↓X03,wA,seval,wE]
   exact X1s (x:=.osl 4 W.length 8 0 W.length) (y:=.bool true) rfl (by simp only [X1F,↓X03,wA,seval,wE]) (by simp only [X1F,↓X03,wA,seval,wE]) (X0n X3v (X9r _)) ((X02 _).sees _)
  ·show Run _ _ ⟨13,[16,17],[.any,.any,.any,.any,.any,.ref 0 0 0,.ref 1 0 0,.ref 2 0 0,.ref 3 0 0,.any,.any,.any,.any],[(15,.fn 260 [X6O A,X6O B])],Xva e (Xdo A B e (i0*B.length+k0))⟩
   generalize Xdo A B e (i0*B.length+k0)=W
   show Run _ (_ :: _) _
   refine X00 1000 ?_
   simp only [XgL,↓X03,wA,seval,wE]
   exact X1s (x:=.sl 0 0 (fun _=>.any) false) (y:=.bool false) rfl (by simp only [X1F,↓X03,wA,seval,wE]) (by simp only [X1F,↓X03,wA,seval,wE]) (X0n X3v (X9r _)) ((X02 _).sees _)
def rnD:Go.Shelf.Ren:=⟨fun _=>290,fun t=>if t=23 then 3 else t,fun x=>x⟩
theorem Xyv:SlLaysE.n45 Tryz.prog rnD where
 mixed:=mixed
 f45:=⟨Tryz.f290.name,rfl,Tryz.func290.trans (congrArg some rfl)⟩
 t0:=Tryz.underlying0
 a0:=Tryz.isAgg0
 z0:=Tryz.sizeOf0
 v0:=Tryz.zeroValue0
 t3:=Tryz.underlying3
 a3:=Tryz.isAgg3
 z3:=Tryz.sizeOf3
 v3:=Tryz.zeroValue3
 t4:=Tryz.underlying4
 a4:=Tryz.isAgg4
 z4:=Tryz.sizeOf4
 v4:=Tryz.zeroValue4
 t22:=Tryz.underlying22
 a22:=Tryz.isAgg22
 z22:=Tryz.sizeOf22
 v22:=Tryz.zeroValue22
 a23:=Tryz.isAgg3
 z23:=Tryz.sizeOf3
def Xnq (x:Int):Value:=.int .i64 x
theorem XfF (w:World) (b:Nat) (d:Array Int) (cs:Array Value) (el:TypeId) (fr:Nat×Nat) (h:w.heap[b]?=some (.cells cs el fr)):(Go.Sort.putRow Xnq w b 0 d).heap[b]?=some (.cells (Go.Sort.putCells Xnq 0 d cs) el fr):=by
 show (w.heap.modify b _)[b]?=_
 rw [Array.getElem?_modify,if_pos rfl,h]
 rfl
theorem X8o (w:World) (b b':Nat) (d:Array Int) (h:b'≠b):(Go.Sort.putRow Xnq w b 0 d).heap[b']?=w.heap[b']?:=by
 show (w.heap.modify b _)[b']?=_
 rw [Array.getElem?_modify,if_neg (Ne.symm h)]
theorem XdO (o:AO) (R:List Int) (v i:Nat) (hi:i<R.length):HCall Tryz.prog 290 [.osl 1 v 1 0 R.length,I i,I ((i+1:Nat):Int)] [o,.row v R.length (slF I 0 R)] (.osl 1 (v+1) 1 0 (R.length - 1)) [o,.row (v+1) (R.length - 1) (slF I 0 (R.eraseIdx i))]:=by
 refine ⟨Tryz.call290,?_⟩
 rintro c vs hH hr ⟨hv1,hv2⟩
 have ho:c.H[1]?=some (.row v R.length (slF I 0 R)):=by rw [hH]; rfl
 have hinf:inf c.H 1=some v:=by simp [inf,ho,AO.info]
 have live:¬ stale c.H 1 v:=by
  rintro (⟨v'',h1,hlt⟩ | hd)
  ·rw [hinf] at h1; cases h1; omega
  ·simp [inf,hd,AO.info] at hinf
 obtain ⟨l,hl⟩:∃ l,vs=l:=⟨_,rfl⟩
 have hx:=hv2 0 (by simp)
 have hy:=hv2 1 (by simp)
 have hz:=hv2 2 (by simp)
 have e3:vs=#[vs.getD 0 undef,vs.getD 1 undef,vs.getD 2 undef]:=by
  have h3:vs.size=3:=hv1
  apply Array.ext
  ·simp [h3]
  ·intro j h1 h2
   match j,h1 with
   | 0,_=>simp [Array.getD,h3]
   | 1,_=>simp [Array.getD,h3]
   | 2,_=>simp [Array.getD,h3]
   | j+3,h=>omega
 rw [e3]
 generalize vs.getD 0 undef=x at *
 generalize vs.getD 1 undef=y at *
 generalize vs.getD 2 undef=z at *
 replace hx:Rep c x (.osl 1 v 1 0 R.length):=hx
 replace hy:Rep c y (I i):=hy
 replace hz:Rep c z (I ((i+1:Nat):Int)):=hz
 cases hy
 cases hz
 generalize hn:R.length=n at hx
 cases hx with
 | oslz _ _ _ _ a h=>omega
 | oslOld _ _ _ _ _ a cap h hs=>exact absurd hs live
 | oslzOld _ _ _ _ a hs=>exact absurd hs live
 | osl _ _ _ _ _ cap b sz h1 hg hcn hcap hmx =>
  subst hn
  rcases hr.row 1 _ _ _ ho with ⟨hg',_⟩ | ⟨b',sz',cs,el,hg',hh,hcs,hks,hnS,hcr⟩
  ·rw [hg'] at hg; cases hg
  rw [hg'] at hg
  cases hg
  have hcell:∀ j,j<R.length→cs.getD j undef=Xnq (R.getD j 0):=fun j hj=>by
   have:=hcr j hj
   rw [show slF I 0 R j=I (R.getD j 0) from rfl] at this
   generalize cs.getD j undef=q at this ⊢
   cases this; rfl
  have hget:∀ j,j<R.length→R.toArray[j]! = R.getD j 0:=fun j hj=>by
   rw [getElem!_pos R.toArray j (by simpa using hj)]
   simp [List.getD_eq_getElem?_getD,hj]
  have hold:Go.Sort.Holds Xnq c.w b 0 R.toArray:=fun j hj=>by
   have hj':j<R.length:=by simpa using hj
   refine ⟨?_,?_⟩
   ·rw [X3K hh (m:=R.length) (by omega) j hj',hcell j hj',hget j hj']
   ·unfold World.frozen?
    rw [hh]
    simp
  obtain ⟨_,i0,z0,hi0,hz1,_⟩:=X48 Xwu
  have key:=AnyE.slices_Delete Xyv Xnq (fun _=>rfl) 0 (fun w=>Tryz.zeroValue3 w) i0 hi0 hz1 b 0 cap i (i+1) R.toArray c.w hold (by simpa using hcn) hmx (by omega) (by rw [List.size_toArray]; omega)
  rw [List.size_toArray] at key
  refine key.mono ?_
  rintro e w' ⟨rfl,q,rfl⟩
  obtain ⟨d,hd⟩:∃ d,d=(R.toArray.toList.take i ++ R.toArray.toList.drop (i+1) ++ List.replicate (i+1 - i) (0:Int)).toArray:=⟨_,rfl⟩
  rw [← hd]
  have hds:d.size=R.length:=by rw [hd]; simp; omega
  have hdj:∀ j,j<R.length - 1→d[j]! = (R.eraseIdx i).getD j 0:=fun j hj=>by
   rw [getElem!_pos d j (by omega)]
   subst hd
   simp only [List.getElem_toArray,List.getD_eq_getElem?_getD,List.getElem?_eraseIdx]
   by_cases h:j<i
   ·rw [List.getElem_append_left (by simp; omega),List.getElem_append_left (by simp; omega)]
    simp [h,show j<R.length by omega]
   ·rw [List.getElem_append_left (by simp; omega),List.getElem_append_right (by simp; omega)]
    have e1:i+1+(j - min i R.length)=j+1:=by omega
    simp [h,e1,show j+1<R.length by omega]
  have hcs2:(Go.Sort.putCells Xnq 0 d cs).size=cs.size:=by simp [Go.Sort.putCells]
  have hset:(c.H.set 1 (.row (v+1) (R.length - 1) (slF I 0 (R.eraseIdx i))))[1]?=some (.row (v+1) (R.length - 1) (slF I 0 (R.eraseIdx i))):=by rw [hH]; rfl
  have hoth:∀ k,k≠1→(c.H.set 1 (.row (v+1) (R.length - 1) (slF I 0 (R.eraseIdx i))))[k]?=c.H[k]?:=fun k hk=>by simp [Ne.symm hk]
  have hinf':inf (c.H.set 1 (.row (v+1) (R.length - 1) (slF I 0 (R.eraseIdx i)))) 1=some (v+1):=by simp [inf,hset,AO.info]
  obtain ⟨g1,g2⟩:=X50 (c:=c) (c':=⟨Go.Sort.putRow Xnq (Go.Sort.ahead c.w q) b 0 d,c.S,c.γ,c.H.set 1 (.row (v+1) (R.length - 1) (slF I 0 (R.eraseIdx i)))⟩) hr
   (id:=1) (ver:=v+1) (n:=R.length - 1) (b:=b) (sz:=sz) hset hoth rfl hg' (fun _ _=>rfl) (XfF (Go.Sort.ahead c.w q) b d cs el (0,0) hh) (hcs2.trans hcs) (by omega)
   (fun b' hb' _=>X8o (Go.Sort.ahead c.w q) b b' d hb') (by simp) rfl rfl rfl (.inr ⟨_,_,ho,rfl,hg'⟩) (.inr (.inr ⟨v,hinf,.inl (by omega)⟩)) (fun j hj=>by
    have e1:(Go.Sort.putCells Xnq 0 d cs).getD j undef=Xnq d[j]!:=by
     have h1:j<cs.size:=by omega
     have h2:j<d.size:=by omega
     simp [Go.Sort.putCells,Array.getD_eq_getD_getElem?,h1,h2]
    rw [e1,hdj j hj]
    exact .int _ _)
  rw [hH] at hinf' g1 g2
  rw [show R.length - (i+1 - i)=R.length - 1 by omega]
  exact ⟨_,_,_,rfl,.osl 1 (v+1) 1 0 (R.length - 1) cap b sz hinf' hg' (by omega) hcap hmx,g1,g2⟩
def zs (R:List Nat):List Int:=R.map fun n:Nat=>(n:Int)
theorem X0m (R:List Nat):(zs R).length=R.length:=by unfold zs; rw [List.length_map]
theorem X6F (R:List Nat) (j:Nat):(zs R).getD j 0=((R.getD j 0:Nat):Int):=by
 unfold zs
 rw [List.getD_eq_getElem?_getD,List.getElem?_map,List.getD_eq_getElem?_getD]
 cases R[j]? <;> rfl
theorem Xid (R:List Nat) (i:Nat):(zs R).eraseIdx i=zs (R.eraseIdx i):=by
 unfold zs
 apply List.ext_getElem?
 intro j
 simp only [List.getElem?_eraseIdx,List.getElem?_map]
 split <;> rfl
def rm2 (L:List V2) (R:List Nat):AV:=.ptr 2 (ofL [X0A L,X0f (zs R)]) 0
theorem X0U (L:List V2) (R:List Nat):rm2 L R=.ptr 2 (ofL [X0A L,X0f (zs R)]) 0:=nrfl rfl
theorem X4y (L:List V2) (R:List Nat):Settled (rm2 L R):=X1N fun j hj=>by
 match j,hj with
 | 0,_=>exact X0b L
 | 1,_=>exact X07 _
 | j+2,h=>omega
def rmB (L:List V2) (R:List Nat):AV:=.ptr 1 (ofL [rm2 L R]) 0
theorem Xg9 (L:List V2) (R:List Nat):rmB L R=.ptr 1 (ofL [rm2 L R]) 0:=nrfl rfl
theorem X77 (L:List V2) (R:List Nat):Settled (rmB L R):=X1N fun j hj=>by
 obtain rfl:j=0:=by omega
 exact X4y L R
def nr (R:List Nat) (m:Nat):Nat:=R.getD (m % R.length) 0
theorem XxM (R:List Nat) (m:Nat):(zs R).getD (m % R.length) 0=((nr R m:Nat):Int):=X6F R _
structure Rok (L:List V2) (R:List Nat):Prop where
 pos:0<R.length
 len:R.length<1000000
 mem:∀ j,R.getD j 0<L.length
 lenL:L.length<1000000
theorem Xb5 (L:List V2) (R:List Nat) (k:Int) (m:Nat) (h:Rok L R) (hk:k+R.length=m) (hm:m<10000000) (h1:-10≤k) (h2:k<10000000):Fn Tryz.prog 295 [I k,rmB L R] (I (nr R m)):=by
 obtain ⟨h0,hn,hmem,hL⟩:=h
 refine Fq Tryz.call295 Tryz.func295 4 [] [] [] (by simp [X77,X08]) (X00 1000 ?_)
 have w1:IntKind.i64.wrap (k+R.length)=(m:Int):=by rw [IntKind.wrap_i64]; omega
 have hmod:(m:Int).tmod R.length=((m % R.length:Nat):Int):=rfl
 have hlt:m % R.length<R.length:=Nat.mod_lt _ h0
 have f1:(((m % R.length:Nat):Int)<R.length)=True:=eq_true (by omega)
 have f2:(m % R.length<R.length)=True:=eq_true hlt
 have f3:(m % R.length+1≤R.length)=True:=eq_true (by omega)
 have f6:((R.length:Int)=0)=False:=eq_false (by omega)
 have f6':(R.length=0)=False:=eq_false (by omega)
 have w2:IntKind.i64.wrap (((m % R.length:Nat):Int))=((m % R.length:Nat):Int):=by rw [IntKind.wrap_i64]; omega
 have v1:=XxM R m
 simp only [AS.start,Xg9,X0U,X04,X0m,w1,w2,hmod,f1,f2,f3,f6,f6',v1,Int.toNat_natCast,↓X03,wA,seval,wE]
 exact X0r rfl rfl (X08 _) rfl
theorem X9B (L:List V2) (R:List Nat) (p:Nat) (h:Rok L R) (hp:p<1000000):Fn Tryz.prog 289 [rm2 L R,I p] (.tup [I (nr R (p+R.length - 1)),I (nr R (p+R.length+1))]):=by
 have c1:=Xb5 L R ((p:Int) - 1) (p+R.length - 1) h (by have:=h.pos; omega) (by have:=h.len; omega) (by omega) (by omega)
 have c2:=Xb5 L R ((p:Int)+1) (p+R.length+1) h (by omega) (by have:=h.len; omega) (by omega) (by omega)
 have w1:IntKind.i64.wrap ((p:Int) - 1)=(p:Int) - 1:=by rw [IntKind.wrap_i64]; omega
 have w2:IntKind.i64.wrap ((p:Int)+1)=(p:Int)+1:=by rw [IntKind.wrap_i64]; omega
 have hl:SeesL [.row 0 1 (ofL [.ptr 2 (ofL [X0A L,X0f (zs R)]) 0])] ([.ref 0 0 0]:List AV) [rmB L R]:=⟨X4O (.inl rfl) (by omega) (fun j hj=>by
  obtain rfl:j=0:=by omega
  exact (X4y L R).sees _),trivial⟩
 refine Fq Tryz.call289 Tryz.func289 7 [] [] [] (by simp [X4y,X08]) (X00 1000 ?_)
 simp only [AS.start,X0U,w1,w2,↓X03,wA,seval,wE]
 refine X2l c1 rfl ⟨X1h (X08 _) rfl,hl⟩ (X6p _ _) ?_
 simp only [w1,w2,↓X03,wA,seval,wE]
 refine X2l c2 rfl ⟨X1h (X08 _) rfl,hl⟩ (X6p _ _) ?_
 simp only [w1,w2,↓X03,wA,seval,wE]
 exact Xmy rfl rfl rfl (X08 _) (X08 _) rfl rfl
def sdF (L:List V2) (R:List Nat) (p:Nat):Int:=X3H (L.getD (nr R (p+R.length - 1)) v0) (L.getD (R.getD p 0) v0) (L.getD (nr R (p+R.length+1)) v0)
theorem XmR (L:List V2) (R:List Nat) (p k:Nat) (h:Rok L R) (hp:p<R.length) (hs:X0Y L k) (hk:k≤10000):Fn Tryz.prog 288 [rm2 L R,I p] (I (sdF L R p)):=by
 have c1:=X9B L R p h (by have:=h.len; omega)
 have c2:=X3D (L.getD (nr R (p+R.length - 1)) v0) (L.getD (R.getD p 0) v0) (L.getD (nr R (p+R.length+1)) v0) (by have:=hs (nr R (p+R.length - 1)); unfold vs; omega) (by have:=hs (R.getD p 0); unfold vs; omega) (by have:=hs (nr R (p+R.length+1)); unfold vs; omega)
 obtain ⟨h0,hn,hmem,hL⟩:=h
 have m1:=hmem ((p+R.length - 1) % R.length)
 have m2:=hmem ((p+R.length+1) % R.length)
 have m3:=hmem p
 change nr R (p+R.length - 1)<L.length at m1
 change nr R (p+R.length+1)<L.length at m2
 unfold sdF
 generalize nr R (p+R.length - 1)=a at *
 generalize nr R (p+R.length+1)=c at *
 have v2:=X6F R p
 generalize R.getD p 0=b at *
 have f1:((p:Int)<R.length)=True:=eq_true (by omega)
 have f2:(p<R.length)=True:=eq_true hp
 have f3:(p+1≤R.length)=True:=eq_true (by omega)
 have a1:((a:Int)<L.length)=True:=eq_true (by omega)
 have a2:(a<L.length)=True:=eq_true m1
 have a3:(a*8+8≤L.length*8)=True:=eq_true (by omega)
 have b1:((b:Int)<L.length)=True:=eq_true (by omega)
 have b2:(b<L.length)=True:=eq_true m3
 have b3:(b*8+8≤L.length*8)=True:=eq_true (by omega)
 have e1:((c:Int)<L.length)=True:=eq_true (by omega)
 have e2:(c<L.length)=True:=eq_true m2
 have e3:(c*8+8≤L.length*8)=True:=eq_true (by omega)
 have va:=vF L a
 have vb:=vF L b
 have vc:=vF L c
 refine Fq Tryz.call288 Tryz.func288 7 [] [] [] (by simp [X4y,X08]) (X00 1000 ?_)
 simp only [AS.start,X0U,X05,X04,↓X03,wA,seval,wE]
 refine X01 c1 rfl ?_
 simp only [X0U,X05,X04,X0m,f1,f2,f3,a1,a2,a3,b1,b2,b3,e1,e2,e3,va,vb,vc,v2,Int.toNat_natCast,↓X03,wA,seval,wE]
 refine X01 c2 rfl ?_
 simp only [↓X03,wA,seval,wE]
 exact X0r rfl rfl (X08 _) rfl
theorem Xps (s:List Int) (v:Int) (hl:s.length<1048576):Fn Tryz.prog 297 [X0f s,I v] (I (XjT (fun x=>decide (v=x)) s)):=by
 refine Fq Tryz.call297 Tryz.func297 6 [6,7,8] [] [] (by simp [X07,X08]) (X00 1000 ?_)
 simp only [AS.start,X04,↓X03,wA,seval,wE]
 refine X0d (fun j:Nat=>⟨6,[6,7,8],[X0f s,I v,.any,.any,.any,.any],[(6,X0f s),(7,I s.length),(8,I j)],[]⟩) (fun j=>j≤s.length∧∀ i,i<j→(fun x=>decide (v=x)) (s.getD i 0)=false) (fun j=>s.length - j) 0 ⟨by omega,by omega⟩
  (X09 rfl (by simp [X0p,X04,I]) (by simp [X0q,X0P,X04,I]) rfl) ?_
 rintro j ⟨hj,hno⟩ next
 have w1:=wj j (by omega)
 refine X00 1000 ?_
 simp only [X04,w1,↓X03,wA,seval,wE]
 refine ⟨fun h=>⟨h,h,?_⟩,fun h=>X0r (v:=I (-1)) rfl rfl (X08 _) ?_⟩
 ·refine ⟨fun ht=>X0r (v:=I j) rfl rfl (X08 _) ?_,fun hf=>next (j+1) _ ⟨by omega,fun i hi=>?_⟩ (by omega) (X09 rfl ?_ ?_ rfl)⟩
  ·rw [X98 h (decide_eq_true ht) hno]
  ·by_cases e:i=j
   ·rw [e]; exact decide_eq_false hf
   ·exact hno i (by omega)
  ·simp [X0p,X04,I]
  ·simp [X0q,X0P,X04,I]
 ·rw [X9T fun i hi=>hno i (by omega)]
def Xu2 (R:List Nat) (x:Int):Nat:=(XjT (fun y=>decide (x=y)) (zs R)).toNat
theorem XfV {R:List Nat} (hd:R.Nodup) {p:Nat} (hp:p<R.length):XjT (fun y=>decide (((R.getD p 0:Nat):Int)=y)) (zs R)=p:=by
 have at_:∀ i (hi:i<R.length),R.getD i 0=R[i]:=fun i hi=>by rw [List.getD_eq_getElem?_getD,List.getElem?_eq_getElem hi]; rfl
 refine X98 (by rw [X0m]; exact hp) (by rw [X6F]; simp) fun i hi=>?_
 rw [X6F]
 refine decide_eq_false fun e=>?_
 rw [at_ i (by omega),at_ p hp] at e
 have e2:R[p]=R[i]:=by omega
 have:=(List.getElem_inj (i:=p) (j:=i) (h₀:=hp) (h₁:=by omega) hd).1 e2
 omega
theorem Xl7 (L:List V2) (R:List Nat) (x:Int) (k:Nat) (h:Rok L R) (hd:R.Nodup) (hx:x∈zs R) (hs:X0Y L k) (hk:k≤10000):Fn Tryz.prog 296 [I x,rmB L R] (.bool (decide (sdF L R (Xu2 R x)=0))):=by
 obtain ⟨p,hp,rfl⟩:∃ p,p<R.length∧((R.getD p 0:Nat):Int)=x:=by
  obtain ⟨i,hi,rfl⟩:=List.getElem_of_mem hx
  refine ⟨i,by rw [X0m] at hi; exact hi,?_⟩
  rw [← X6F,List.getD_eq_getElem?_getD,List.getElem?_eq_getElem hi]; rfl
 have c1:=Xps (zs R) ((R.getD p 0:Nat):Int) (by rw [X0m]; have:=h.len; omega)
 have e:Xu2 R ((R.getD p 0:Nat):Int)=p:=by unfold Xu2; rw [XfV hd hp]; rfl
 rw [XfV hd hp] at c1
 rw [e]
 have c2:=XmR L R p k h hp hs hk
 refine Fq Tryz.call296 Tryz.func296 4 [] [] [] (by simp [X77,X08]) (X00 1000 ?_)
 simp only [AS.start,Xg9,X0U,X04,X0m,↓X03,wA,seval,wE]
 refine X01 c1 (by simp only [X04,X0m]; rfl) ?_
 simp only [Xg9,X0U,X04,X0m,↓X03,wA,seval,wE]
 refine X01 c2 (by simp only [X0U,X04,X0m]; rfl) ?_
 simp only [↓X03,wA,seval,wE]
 exact X0r rfl rfl (X02 _) rfl
def X4o (L:List V2) (R:List Nat):Nat:=(List.range R.length).findIdx fun p=>decide (sdF L R p=0)
theorem Xcz (L:List V2) (R:List Nat):X4o L R≤R.length:=by
 have:=List.findIdx_le_length (xs:=List.range R.length) (p:=fun p=>decide (sdF L R p=0))
 rw [List.length_range] at this
 exact this
theorem Xe0 {L:List V2} {R:List Nat} (h:X4o L R<R.length):sdF L R (X4o L R)=0:=by
 have:=List.findIdx_getElem (xs:=List.range R.length) (p:=fun p=>decide (sdF L R p=0)) (w:=by rw [List.length_range]; exact h)
 rw [List.getElem_range] at this
 exact of_decide_eq_true this
theorem XcA {L:List V2} {R:List Nat} {p:Nat} (h:p<X4o L R):sdF L R p≠0:=by
 have h2:=Xcz L R
 have:=List.not_of_lt_findIdx (xs:=List.range R.length) (p:=fun p=>decide (sdF L R p=0)) (i:=p) h
 rw [List.getElem_range] at this
 exact of_decide_eq_false this
def X6G (L:List V2):Nat→List Nat→List Nat
 | 0,R=>R
 | f+1,R=>if 3<R.length∧X4o L R<R.length then X6G L f (R.eraseIdx (X4o L R)) else R
theorem XsS {L:List V2} {R:List Nat} (hd:R.Nodup):XjT (fun x=>decide (sdF L R (Xu2 R x)=0)) (zs R)=if X4o L R<R.length then ((X4o L R:Nat):Int) else -1:=by
 have at_:∀ p,p<R.length→Xu2 R ((zs R).getD p 0)=p:=fun p hp=>by unfold Xu2; rw [X6F,XfV hd hp]; rfl
 split
 ·rename_i h
  refine X98 (by rw [X0m]; exact h) ?_ fun i hi=>?_
  ·rw [at_ _ h]; exact decide_eq_true (Xe0 h)
  ·rw [at_ _ (by omega)]; exact decide_eq_false (XcA hi)
 ·rename_i h
  refine X9T fun i hi=>?_
  rw [X0m] at hi
  have:=Xcz L R
  rw [at_ _ hi]; exact decide_eq_false (XcA (by omega))
def rmH (L:List V2) (N:Nat) (R:List Nat):List AO:=[.row 0 2 (ofL [X0A L,.osl 1 (N - R.length) 1 0 R.length]),.row (N - R.length) R.length (slF I 0 (zs R))]
theorem X1T (L:List V2) (N:Nat) (R:List Nat):rmH L N R=[.row 0 2 (ofL [X0A L,.osl 1 (N - R.length) 1 0 R.length]),.row (N - R.length) R.length (slF I 0 (zs R))]:=nrfl rfl
theorem X3m (L:List V2) (N:Nat) (R:List Nat):Xv3 2 (rmH L N R):=by
 refine ⟨rfl,fun o ho=>?_⟩
 have bL:Bel 2 (X0A L)=True:=eq_true (X06 (X0b L))
 simp only [rmH,List.mem_cons,List.not_mem_nil,or_false] at ho
 rcases ho with rfl | rfl
 ·exact ⟨by simp [X0L,bL],by simp,by simp⟩
 ·exact ⟨fun j _=>X06 (X08 _),by simp,by simp⟩
theorem Xdc {L:List V2} {N:Nat} {R:List Nat} {rest:List AO}:X4B (rmH L N R ++ rest) (.ref 0 0 0) (rm2 L R):=X4O (.inl rfl) (by omega) fun j hj=>by
 match j,hj with
 | 0,_=>exact (X0b L).sees _
 | 1,_ =>
  show X4B _ (.osl 1 (N - R.length) 1 0 R.length) (X0f (zs R))
  have:=X7S (l:=zs R) (H:=rmH L N R ++ rest) (id:=1) (ver:=N - R.length) (n:=R.length) rfl (by rw [X0m]; exact Nat.le_refl _)
  rw [X0m] at this
  exact this
 | j+2,h=>omega
theorem XhR {L:List V2} {N:Nat} {R:List Nat} {rest:List AO}:X4B (rmH L N R ++ rest) (.osl 1 (N - R.length) 1 0 R.length) (X0f (zs R)):=by
 have:=X7S (l:=zs R) (H:=rmH L N R ++ rest) (id:=1) (ver:=N - R.length) (n:=R.length) rfl (by rw [X0m]; exact Nat.le_refl _)
 rw [X0m] at this
 exact this
theorem XyI {P:Program} {fn:Func} {str hcs:List Nat} {m:Nat} {H:List AO} {s:AS} (hr:fn.results=#[]) (hH:s.h.take m=H):RetOk (XjS P fn str hcs m (.tup []) H) s :=
 ⟨.tup [],by show X7L P fn s=_; simp [X7L,hr,X2a,X6D],rfl,hH⟩
theorem Xxl {P:Program} {fn:Func} {str hcs:List Nat} {m:Nat} {H:List AO} {s:AS} (hr:fn.results=#[]) (hH:s.h.take m=H):RetE (XjS P fn str hcs m (.tup []) H) s :=
 ⟨.tup [],by show X7L P fn s=_; simp [X7L,hr,X2a,X6D],rfl,hH⟩
theorem X5o {L:List V2} {R:List Nat} {q:Nat} (h:Rok L R) (h3:3<R.length) (hq:q<R.length):Rok L (R.eraseIdx q):=by
 obtain ⟨h0,hn,hmem,hL⟩:=h
 have hlen:(R.eraseIdx q).length=R.length - 1:=by rw [List.length_eraseIdx,if_pos hq]
 refine ⟨by omega,by omega,fun j=>?_,hL⟩
 rw [List.getD_eq_getElem?_getD,List.getElem?_eraseIdx]
 split
 ·rw [← List.getD_eq_getElem?_getD]; exact hmem j
 ·rw [← List.getD_eq_getElem?_getD]; exact hmem (j+1)
theorem XoA (L:List V2) (N:Nat) (R0:List Nat) (k:Nat) (h:Rok L R0) (hd:R0.Nodup) (hN:R0.length≤N) (hs:X0Y L k) (hk:k≤10000):HCall Tryz.prog 291 [.ref 0 0 0] (rmH L N R0) (.tup []) (rmH L N (X6G L R0.length R0)):=by
 have bL:Bel 3 (X0A L)=True:=eq_true (X06 (X0b L))
 refine HCall.introC (fn:=Tryz.f291) Tryz.call291 Tryz.func291 rfl mixed 3 [] [4,50000001,5004] [4] (by kernel_rfl) (Nat.le_of_ble_eq_true rfl) (X06 (Xgj (by simp))) (fun o ho=>((X3m _ _ _).2 o ho).1) (X00 1000 ?_)
 simp only [AS.start,X1T,↓X03,wA,seval,wE]
 refine X0d (fun R:List Nat=>⟨3,[],[.any,.ref 2 0 0,.any],[],rmH L N R ++ [.con 0 1 (ofL [.ref 0 0 0])]⟩) (fun R=>Rok L R∧R.Nodup∧R.length≤N∧X6G L R.length R=X6G L R0.length R0) (fun R=>R.length) R0 ⟨h,hd,hN,rfl⟩
  (Sub.trans (X1a 2 rfl) (X09 rfl (by simp [X0p]) (by simp [X0q]) (by simp [rmH]))) ?_
 rintro R ⟨hR,hdR,hNR,hcl⟩ next
 have hR':=hR
 obtain ⟨h0,hn,hmem,hL⟩:=hR'
 by_cases h3:3<R.length
 rotate_left
 ·have e:X6G L R.length R=R:=by
   cases hl:R.length with
   | zero=>rfl
   | succ n=>unfold X6G; rw [if_neg (by omega)]
  rw [e] at hcl
  have f1:((3:Int)<R.length)=False:=eq_false (by omega)
  refine X00 1000 ?_
  simp only [X1T,List.cons_append,List.nil_append,f1,↓X03,wA,seval,wE]
  rw [← hcl]
  exact Xxl rfl rfl
 have f1:((3:Int)<R.length)=True:=eq_true (by omega)
 have ci:=Xe5 (zs R) 296 [rmB L R] (fun x=>decide (sdF L R (Xu2 R x)=0)) (by rw [X0m]; omega) (fun a ha=>by rw [List.mem_singleton.1 ha]; exact X77 L R) (fun x hx=>Xl7 L R x k hR hdR hx hs hk)
 rw [XsS hdR] at ci
 have sB:X4B (rmH L N R ++ [.con 0 1 (ofL [.ref 0 0 0])]) (.ref 2 0 0) (rmB L R):=X4O (.inr rfl) (by omega) fun j hj=>by
  obtain rfl:j=0:=by omega
  exact Xdc
 by_cases hq:X4o L R<R.length
 rotate_left
 ·have e:X6G L R.length R=R:=by
   cases hl:R.length with
   | zero=>rfl
   | succ n=>unfold X6G; rw [if_neg (by omega)]
  rw [e] at hcl
  rw [if_neg hq] at ci
  refine X00 1000 ?_
  simp only [X1T,List.cons_append,List.nil_append,f1,↓X03,wA,seval,wE]
  refine X2l ci rfl ⟨XhR,X8w ⟨sB,trivial⟩,trivial⟩ (X6p _ _) ?_
  simp only [show ((-1:Int)<0)=True from eq_true (by omega),↓X03,wA,seval,wE]
  rw [← hcl]
  exact XyI rfl rfl
 rw [if_pos hq] at ci
 have hlq:∀ q,q<R.length→(R.eraseIdx q).length=R.length - 1:=fun q hq=>by rw [List.length_eraseIdx,if_pos hq]
 have ecl:X6G L R.length R=X6G L (R.eraseIdx (X4o L R)).length (R.eraseIdx (X4o L R)):=by
  rw [hlq _ hq]
  cases hl:R.length with
  | zero=>omega
  | succ n =>
   show (if 3<R.length∧X4o L R<R.length then X6G L n (R.eraseIdx (X4o L R)) else R)=_
   rw [if_pos ⟨h3,hq⟩]; rfl
 rw [ecl] at hcl
 generalize X4o L R=q at *
 have hl:=hlq q hq
 have f2:((q:Int)<0)=False:=eq_false (by omega)
 have w1:=wj q (by omega)
 have cd:=XdO (.row 0 2 (ofL [X0A L,.osl 1 (N - R.length) 1 0 R.length])) (zs R) (N - R.length) q (by rw [X0m]; exact hq)
 rw [X0m,Xid] at cd
 refine X00 1000 ?_
 simp only [X1T,List.cons_append,List.nil_append,f1,↓X03,wA,seval,wE]
 refine X2l ci rfl ⟨XhR,X8w ⟨sB,trivial⟩,trivial⟩ (X6p _ _) ?_
 simp only [w1,f2,↓X03,wA,seval,wE]
 have o2:∀ o∈[AO.row 0 2 (ofL [X0A L,.osl 1 (N - R.length) 1 0 R.length]),.row (N - R.length+1) (R.length - 1) (slF I 0 (zs (R.eraseIdx q)))],o≠.unborn∧∀ v n f,o≠.con v n f:=fun o ho=>by
  simp only [List.mem_cons,List.not_mem_nil,or_false] at ho
  rcases ho with rfl | rfl <;> exact ⟨by simp,by simp⟩
 have bA:∀ a∈[AV.osl 1 (N - R.length) 1 0 R.length,I q,I ((q+1:Nat):Int)],Bel 2 a:=fun a ha=>by
  simp only [List.mem_cons,List.not_mem_nil,or_false] at ha
  rcases ha with rfl | rfl | rfl
  ·exact Xfj (by omega)
  ·exact X06 (X08 _)
  ·exact X06 (X08 _)
 refine X4f (H1:=rmH L N R) (H1':=[AO.row 0 2 (ofL [X0A L,.osl 1 (N - R.length) 1 0 R.length]),.row (N - R.length+1) (R.length - 1) (slF I 0 (zs (R.eraseIdx q)))]) (rest:=[.con 0 1 (ofL [.ref 0 0 0])]) rfl cd rfl rfl bA (fun o ho=>((X3m L N R).2 o ho).1) (fun o ho=>((X3m L N R).2 o ho).2.1) (fun o ho=>(o2 o ho).1) (X1V (fun o ho=>((X3m L N R).2 o ho).2.2) (fun o ho=>(o2 o ho).2)) (X0X _) ?_
 simp only [List.cons_append,List.nil_append,↓X03,wA,seval,wE]
 exact next (R.eraseIdx q) _ ⟨X5o hR h3 hq,hdR.eraseIdx q,by omega,hcl⟩ (by omega) (X09 rfl (by simp [X0p]) (by simp [X0q]) (by rw [X1T,hl,show N - (R.length - 1)=N - R.length+1 by omega]; rfl))
def inT (a b c p:V2):Prop:=0≤X3H a b p∧0≤X3H b c p∧0≤X3H c a p
def X6X (L:List V2) (a b c k:Nat):Prop:=k=a∨k=c∨k=b∨¬ inT (L.getD a v0) (L.getD b v0) (L.getD c v0) (L.getD k v0)
def XaL (L:List V2) (R:List Nat) (p:Nat):Bool:=decide (0<sdF L R p∧∀ j,j<R.length→X6X L (nr R (p+R.length - 1)) (R.getD p 0) (nr R (p+R.length+1)) (R.getD j 0))
def XjW (A B C:V2):AV:=.sl 3 24 (ofL [.bool (decide (A.x.num<0)),X0f (X0i A.x.num.natAbs),.bool false,X0f (X0i (qd A.x)),.bool (decide (A.y.num<0)),X0f (X0i A.y.num.natAbs),.bool false,X0f (X0i (qd A.y)),.bool (decide (B.x.num<0)),X0f (X0i B.x.num.natAbs),.bool false,X0f (X0i (qd B.x)),.bool (decide (B.y.num<0)),X0f (X0i B.y.num.natAbs),.bool false,X0f (X0i (qd B.y)),.bool (decide (C.x.num<0)),X0f (X0i C.x.num.natAbs),.bool false,X0f (X0i (qd C.x)),.bool (decide (C.y.num<0)),X0f (X0i C.y.num.natAbs),.bool false,X0f (X0i (qd C.y))]) true
theorem X0G (A B C:V2):XjW A B C=.sl 3 24 (ofL [.bool (decide (A.x.num<0)),X0f (X0i A.x.num.natAbs),.bool false,X0f (X0i (qd A.x)),.bool (decide (A.y.num<0)),X0f (X0i A.y.num.natAbs),.bool false,X0f (X0i (qd A.y)),.bool (decide (B.x.num<0)),X0f (X0i B.x.num.natAbs),.bool false,X0f (X0i (qd B.x)),.bool (decide (B.y.num<0)),X0f (X0i B.y.num.natAbs),.bool false,X0f (X0i (qd B.y)),.bool (decide (C.x.num<0)),X0f (X0i C.x.num.natAbs),.bool false,X0f (X0i (qd C.x)),.bool (decide (C.y.num<0)),X0f (X0i C.y.num.natAbs),.bool false,X0f (X0i (qd C.y))]) true:=nrfl rfl
theorem Xwl (L:List V2) (R:List Nat) (p k:Nat) (h:Rok L R) (hp:p<R.length) (hs:X0Y L k) (hk:k≤10000):Fn Tryz.prog 274 [rm2 L R,I p] (.bool (XaL L R p)):=by
 have c1:=XmR L R p k h hp hs hk
 have c2:=X9B L R p h (by have:=h.len; omega)
 obtain ⟨h0,hn,hmem,hL⟩:=h
 have m1:=hmem ((p+R.length - 1) % R.length)
 have m2:=hmem ((p+R.length+1) % R.length)
 have m3:=hmem p
 change nr R (p+R.length - 1)<L.length at m1
 change nr R (p+R.length+1)<L.length at m2
 have hear:XaL L R p=decide (0<sdF L R p∧∀ j,j<R.length→X6X L (nr R (p+R.length - 1)) (R.getD p 0) (nr R (p+R.length+1)) (R.getD j 0)):=rfl
 generalize XaL L R p=E at *
 generalize sdF L R p=S at *
 generalize nr R (p+R.length - 1)=a at *
 generalize nr R (p+R.length+1)=c at *
 have v2:=X6F R p
 generalize R.getD p 0=b at *
 have f1:((p:Int)<R.length)=True:=eq_true (by omega)
 have f2:(p<R.length)=True:=eq_true hp
 have f3:(p+1≤R.length)=True:=eq_true (by omega)
 have a1:((a:Int)<L.length)=True:=eq_true (by omega)
 have a2:(a<L.length)=True:=eq_true m1
 have a3:(a*8+8≤L.length*8)=True:=eq_true (by omega)
 have b1:((b:Int)<L.length)=True:=eq_true (by omega)
 have b2:(b<L.length)=True:=eq_true m3
 have b3:(b*8+8≤L.length*8)=True:=eq_true (by omega)
 have e1:((c:Int)<L.length)=True:=eq_true (by omega)
 have e2:(c<L.length)=True:=eq_true m2
 have e3:(c*8+8≤L.length*8)=True:=eq_true (by omega)
 have va:=vF L a
 have vb:=vF L b
 have vc:=vF L c
 refine Fq Tryz.call274 Tryz.func274 11 [52,53,54,77,78,79] [] [] (by simp [X4y,X08]) (X00 1000 ?_)
 simp only [AS.start,X0U,X05,X04,↓X03,wA,↓reduceIte,reduceIte,reduceCtorEq,Y1,Y2,Y3,Y4,Y5,Y6,Y7,Y8,Y9,YA,wE]
 refine X01 c1 rfl ?_
 by_cases hS:S≤0
 ·have g1:(S≤0)=True:=eq_true hS
  have hE:E=false:=by rw [hear]; exact decide_eq_false fun hh=>by omega
  simp only [X0U,X05,X04,g1,↓X03,wA,↓reduceIte,reduceIte,reduceCtorEq,Y1,Y2,Y3,Y4,Y5,Y6,Y7,Y8,Y9,YA,wE]
  exact X0r (v:=.bool false) rfl rfl (X02 _) (by rw [hE])
 have g1:(S≤0)=False:=eq_false hS
 simp only [X0U,X05,X04,g1,↓X03,wA,↓reduceIte,reduceIte,reduceCtorEq,Y1,Y2,Y3,Y4,Y5,Y6,Y7,Y8,Y9,YA,wE]
 refine X01 c2 rfl ?_
 simp only [X0U,X05,X04,X0m,f1,f2,f3,a1,a2,a3,b1,b2,b3,e1,e2,e3,va,vb,vc,v2,Int.toNat_natCast,↓X03,wA,↓reduceIte,reduceIte,reduceCtorEq,Y1,Y2,Y3,Y4,Y5,Y6,Y7,Y8,Y9,YA,wE]
 have sA:=hs a
 have sB:=hs b
 have sC:=hs c
 generalize hA:L.getD a v0=A at *
 generalize hB:L.getD b v0=B at *
 generalize hC:L.getD c v0=C at *
 have hfree:∀ q,X6X L a b c q=(q=a∨q=c∨q=b∨¬ inT A B C (L.getD q v0)):=fun q=>by unfold X6X; rw [hA,hB,hC]
 refine X0d (fun j:Nat=>⟨11,[52,53,54,77,78,79],[rm2 L R,I p,.any,.any,.any,I a,I c,XjW A B C,.any,.any,.any],[(52,X0f (zs R)),(53,I R.length),(54,I j)],[]⟩) (fun j=>j≤R.length∧∀ i,i<j→X6X L a b c (R.getD i 0)) (fun j=>R.length - j) 0 ⟨by omega,fun i hi=>absurd hi (Nat.not_lt_zero i)⟩
  (X09 rfl (by simp [X0p,X0U,X05,X04,X0m,X0G,I]) (by simp [X0q,X0P,X04,X0m,I]) rfl) ?_
 rintro j ⟨hj,hno⟩ next
 have w1:=wj j (by omega)
 by_cases hj2:j<R.length
 rotate_left
 ·obtain rfl:j=R.length:=by omega
  have hE:E=true:=by rw [hear]; exact decide_eq_true ⟨by omega,hno⟩
  refine X00 1000 ?_
  simp only [X0U,X05,X04,X0m,X0G,Int.lt_irrefl,Nat.lt_irrefl,↓X03,wA,↓reduceIte,reduceIte,reduceCtorEq,Y1,Y2,Y3,Y4,Y5,Y6,Y7,Y8,Y9,YA,wE]
  exact X0r (v:=.bool true) rfl rfl (X02 _) (by rw [hE])
 have k1:((j:Int)<R.length)=True:=eq_true (by omega)
 have k2:(j<R.length)=True:=eq_true hj2
 have k3:(j+1≤R.length)=True:=eq_true (by omega)
 have v3:=X6F R j
 have m4:=hmem j
 have nx:=next (j+1)
 have hgo:=fun hfr=>X2t.2 (show (∀ i,i<j→X6X L a b c (R.getD i 0))∧X6X L a b c (R.getD j 0) from ⟨hno,hfr⟩)
 have hstop:¬ X6X L a b c (R.getD j 0)→E=false:=fun hb=>by rw [hear]; exact decide_eq_false fun hh=>hb (hh.2 j hj2)
 rw [hfree] at hgo hstop
 generalize R.getD j 0=q at *
 have sQ:=hs q
 by_cases q1:q=a
 ·have g1:((q:Int)=(a:Int))=True:=eq_true (by omega)
  refine X00 1000 ?_
  simp only [X0U,X05,X04,X0m,X0G,w1,f1,f2,f3,v2,k1,k2,k3,v3,g1,Int.toNat_natCast,↓X03,wA,↓reduceIte,reduceIte,reduceCtorEq,Y1,Y2,Y3,Y4,Y5,Y6,Y7,Y8,Y9,YA,wE]
  exact nx _ ⟨by omega,hgo (.inl q1)⟩ (by omega) (X09 rfl (by simp [X0p,X0U,X05,X04,X0m,X0G,I]) (by simp [X0q,X0P,X04,X0m,I]) rfl)
 have g1':((q:Int)=(a:Int))=False:=eq_false (by omega)
 by_cases q2:q=c
 ·have g2:((q:Int)=(c:Int))=True:=eq_true (by omega)
  refine X00 1000 ?_
  simp only [X0U,X05,X04,X0m,X0G,w1,f1,f2,f3,v2,k1,k2,k3,v3,g1',g2,Int.toNat_natCast,↓X03,wA,↓reduceIte,reduceIte,reduceCtorEq,Y1,Y2,Y3,Y4,Y5,Y6,Y7,Y8,Y9,YA,wE]
  exact nx _ ⟨by omega,hgo (.inr (.inl q2))⟩ (by omega) (X09 rfl (by simp [X0p,X0U,X05,X04,X0m,X0G,I]) (by simp [X0q,X0P,X04,X0m,I]) rfl)
 have g2':((q:Int)=(c:Int))=False:=eq_false (by omega)
 by_cases q3:q=b
 ·have g3:((q:Int)=(b:Int))=True:=eq_true (by omega)
  refine X00 1000 ?_
  simp only [X0U,X05,X04,X0m,X0G,w1,f1,f2,f3,v2,k1,k2,k3,v3,g1',g2',g3,Int.toNat_natCast,↓X03,wA,↓reduceIte,reduceIte,reduceCtorEq,Y1,Y2,Y3,Y4,Y5,Y6,Y7,Y8,Y9,YA,wE]
  exact nx _ ⟨by omega,hgo (.inr (.inr (.inl q3)))⟩ (by omega) (X09 rfl (by simp [X0p,X0U,X05,X04,X0m,X0G,I]) (by simp [X0q,X0P,X04,X0m,I]) rfl)
 have g3':((q:Int)=(b:Int))=False:=eq_false (by omega)
 refine X00 1000 ?_
 simp only [X0U,X05,X04,X0m,X0G,w1,f1,f2,f3,v2,k1,k2,k3,v3,g1',g2',g3',Int.toNat_natCast,↓X03,wA,↓reduceIte,reduceIte,reduceCtorEq,Y1,Y2,Y3,Y4,Y5,Y6,Y7,Y8,Y9,YA,wE]
 have x1:((q:Int)<L.length)=True:=eq_true (by omega)
 have x2:(q<L.length)=True:=eq_true m4
 have x3:(q*8+8≤L.length*8)=True:=eq_true (by omega)
 have vq:=vF L q
 generalize hQ:L.getD q v0=Q at *
 have z0:((0:Int)<3)=True:=eq_true (by omega)
 have z1:((1:Int)<3)=True:=eq_true (by omega)
 have z2:((2:Int)<3)=True:=eq_true (by omega)
 have z3:((3:Int)<3)=False:=eq_false (by omega)
 have t1:IntKind.i64.wrap (0+1)=1:=rfl
 have t2:IntKind.i64.wrap (1+1)=2:=rfl
 have t3:IntKind.i64.wrap (2+1)=3:=rfl
 have r1:(1:Int).tmod 3=1:=rfl
 have r2:(2:Int).tmod 3=2:=rfl
 have r3:(3:Int).tmod 3=0:=rfl
 have c3:((3:Nat):Int)=3:=rfl
 have d0:Int.toNat 0=0:=rfl
 have d1:Int.toNat 1=1:=rfl
 have d2:Int.toNat 2=2:=rfl
 have c11:((1:Nat):Int)=1:=rfl
 have c22:((2:Nat):Int)=2:=rfl
 have n3:((3:Int)=0)=False:=eq_false (by omega)
 have p0:((0:Int)≤0)=True:=eq_true (by omega)
 have p1:((0:Int)≤1)=True:=eq_true (by omega)
 have p2:((0:Int)≤2)=True:=eq_true (by omega)
 have o1:IntKind.i64.wrap 1=1:=rfl
 have o2:IntKind.i64.wrap 2=2:=rfl
 have o3:IntKind.i64.wrap 0=0:=rfl
 refine X0d (fun i:Nat=>⟨11,[52,53,54,77,78,79],[rm2 L R,I p,.any,.any,.any,I a,I c,XjW A B C,.any,I q,.any],[(77,XjW A B C),(78,I 3),(79,I i),(52,X0f (zs R)),(53,I R.length),(54,I j)],[]⟩) (fun i=>i≤3∧((0<i→0≤X3H A B Q)∧(1<i→0≤X3H B C Q)∧(2<i→0≤X3H C A Q))) (fun i=>3 - i) 0 ⟨by omega,by omega,by omega,by omega⟩
  (X09 rfl (by simp [X0p,X0U,X05,X04,X0m,X0G,I]) (by simp [X0q,X0P,X04,X0m,X0G,I]) rfl) ?_
 rintro i ⟨hi,hin⟩ next2
 rcases (show i=0∨i=1∨i=2∨i=3 by omega) with rfl | rfl | rfl | rfl
 ·have cs:=X3D A B Q (by unfold vs; omega) (by unfold vs; omega) (by unfold vs; omega)
  have n2:=next2 1
  refine X00 1000 ?_
  simp only [X0U,X05,X04,X0m,X0G,w1,z0,z1,z2,z3,t1,t2,t3,x1,x2,x3,o1,o2,o3,c3,d0,d1,d2,c11,c22,n3,p0,p1,p2,not_false_eq_true,true_and,r1,r2,r3,vq,Int.toNat_natCast,↓X03,wA,↓reduceIte,reduceIte,reduceCtorEq,Y1,Y2,Y3,Y4,Y5,Y6,Y7,Y8,Y9,YA,wE]
  refine X01 cs rfl ?_
  by_cases hneg:X3H A B Q<0
  ·simp only [eq_true hneg,X0U,X05,X04,X0m,X0G,w1,↓X03,wA,↓reduceIte,reduceIte,reduceCtorEq,Y1,Y2,Y3,Y4,Y5,Y6,Y7,Y8,Y9,YA,wE]
   exact nx _ ⟨by omega,hgo (.inr (.inr (.inr fun hh=>by unfold inT at hh; omega)))⟩ (by omega) (X09 rfl (by simp [X0p,X0U,X05,X04,X0m,X0G,I]) (by simp [X0q,X0P,X04,X0m,I]) rfl)
  ·simp only [eq_false hneg,X0U,X05,X04,X0m,X0G,w1,t1,t2,t3,↓X03,wA,↓reduceIte,reduceIte,reduceCtorEq,Y1,Y2,Y3,Y4,Y5,Y6,Y7,Y8,Y9,YA,wE]
   exact n2 _ ⟨by omega,by omega⟩ (by omega) (X09 rfl (by simp [X0p,X0U,X05,X04,X0m,X0G,I]) (by simp [X0q,X0P,X04,X0m,X0G,I]) rfl)
 ·have cs:=X3D B C Q (by unfold vs; omega) (by unfold vs; omega) (by unfold vs; omega)
  have n2:=next2 2
  refine X00 1000 ?_
  simp only [X0U,X05,X04,X0m,X0G,w1,z0,z1,z2,z3,t1,t2,t3,x1,x2,x3,o1,o2,o3,c3,d0,d1,d2,c11,c22,n3,p0,p1,p2,not_false_eq_true,true_and,r1,r2,r3,vq,Int.toNat_natCast,↓X03,wA,↓reduceIte,reduceIte,reduceCtorEq,Y1,Y2,Y3,Y4,Y5,Y6,Y7,Y8,Y9,YA,wE]
  refine X01 cs rfl ?_
  by_cases hneg:X3H B C Q<0
  ·simp only [eq_true hneg,X0U,X05,X04,X0m,X0G,w1,↓X03,wA,↓reduceIte,reduceIte,reduceCtorEq,Y1,Y2,Y3,Y4,Y5,Y6,Y7,Y8,Y9,YA,wE]
   exact nx _ ⟨by omega,hgo (.inr (.inr (.inr fun hh=>by unfold inT at hh; omega)))⟩ (by omega) (X09 rfl (by simp [X0p,X0U,X05,X04,X0m,X0G,I]) (by simp [X0q,X0P,X04,X0m,I]) rfl)
  ·simp only [eq_false hneg,X0U,X05,X04,X0m,X0G,w1,t1,t2,t3,↓X03,wA,↓reduceIte,reduceIte,reduceCtorEq,Y1,Y2,Y3,Y4,Y5,Y6,Y7,Y8,Y9,YA,wE]
   exact n2 _ ⟨by omega,by omega⟩ (by omega) (X09 rfl (by simp [X0p,X0U,X05,X04,X0m,X0G,I]) (by simp [X0q,X0P,X04,X0m,X0G,I]) rfl)
 ·have cs:=X3D C A Q (by unfold vs; omega) (by unfold vs; omega) (by unfold vs; omega)
  have n2:=next2 3
  refine X00 1000 ?_
  simp only [X0U,X05,X04,X0m,X0G,w1,z0,z1,z2,z3,t1,t2,t3,x1,x2,x3,o1,o2,o3,c3,d0,d1,d2,c11,c22,n3,p0,p1,p2,not_false_eq_true,true_and,r1,r2,r3,vq,Int.toNat_natCast,↓X03,wA,↓reduceIte,reduceIte,reduceCtorEq,Y1,Y2,Y3,Y4,Y5,Y6,Y7,Y8,Y9,YA,wE]
  refine X01 cs rfl ?_
  by_cases hneg:X3H C A Q<0
  ·simp only [eq_true hneg,X0U,X05,X04,X0m,X0G,w1,↓X03,wA,↓reduceIte,reduceIte,reduceCtorEq,Y1,Y2,Y3,Y4,Y5,Y6,Y7,Y8,Y9,YA,wE]
   exact nx _ ⟨by omega,hgo (.inr (.inr (.inr fun hh=>by unfold inT at hh; omega)))⟩ (by omega) (X09 rfl (by simp [X0p,X0U,X05,X04,X0m,X0G,I]) (by simp [X0q,X0P,X04,X0m,I]) rfl)
  ·simp only [eq_false hneg,X0U,X05,X04,X0m,X0G,w1,t1,t2,t3,↓X03,wA,↓reduceIte,reduceIte,reduceCtorEq,Y1,Y2,Y3,Y4,Y5,Y6,Y7,Y8,Y9,YA,wE]
   exact n2 _ ⟨by omega,by omega⟩ (by omega) (X09 rfl (by simp [X0p,X0U,X05,X04,X0m,X0G,I]) (by simp [X0q,X0P,X04,X0m,X0G,I]) rfl)
 ·have hE:E=false:=hstop (by
   rintro (e | e | e | e)
   ·exact q1 e
   ·exact q2 e
   ·exact q3 e
   ·exact e ⟨hin.1 (by omega),hin.2.1 (by omega),hin.2.2 (by omega)⟩)
  refine X00 1000 ?_
  simp only [X0U,X05,X04,X0m,X0G,z3,c3,↓X03,wA,↓reduceIte,reduceIte,reduceCtorEq,Y1,Y2,Y3,Y4,Y5,Y6,Y7,Y8,Y9,YA,wE]
  exact X0r (v:=.bool false) rfl rfl (X02 _) (by rw [hE])
theorem X85 (i:Nat):zs (List.range (i+1))=zs (List.range i) ++ [(i:Int)]:=by unfold zs; rw [List.range_succ,List.map_append]; rfl
theorem XvP (L:List V2) (hl:L.length<1000000):HCall Tryz.prog 273 [X0A L] [] (.ref 0 0 0) (rmH L (2*L.length) (List.range L.length)):=by
 refine HCall.intro (fn:=Tryz.f273) Tryz.call273 Tryz.func273 rfl mixed 5 [8,9,10] [] [] (by kernel_rfl) (Nat.le_of_ble_eq_true rfl) (X00 1000 ?_)
 simp only [AS.start,X05,↓X03,wA,seval,wE]
 refine X0d (fun i:Nat=>⟨5,[8,9,10],[.any,.any,.any,.ref 0 0 0,.any],[(8,X0A L),(9,I L.length),(10,I i)],[.row 0 2 (ofL [X0A L,.osl 1 i 1 0 i]),.row i i (slF I 0 (zs (List.range i)))]⟩) (fun i=>i≤L.length) (fun i=>L.length - i) 0 (by omega)
  (Sub.trans (Xdf (slF I 0 (zs (List.range 0)))) (Sub.trans (X4c 0 (ofL [X0A L,.osl 1 0 1 0 0]) rfl (fun j hj=>by
   match j,hj with
   | 0,_=>exact X1B _ _
   | 1,_ =>
    show X4k _ (.sl 0 0 (fun _=>.any) true) (.osl 1 0 1 0 0)
    exact X4Q (n:=0) (f:=slF I 0 (zs (List.range 0))) rfl
   | j+2,h=>exact absurd h (by show ¬ j+2<2; omega))) (X09 rfl (by simp [X0p]) (by simp [X0q,X0P,X05,I]) rfl))) ?_
 intro i hi next
 have w1:=wj i (by omega)
 by_cases hi2:i<L.length
 rotate_left
 ·obtain rfl:i=L.length:=by omega
  refine X00 1000 ?_
  simp only [X05,Int.lt_irrefl,Nat.lt_irrefl,↓X03,wA,seval,wE]
  refine Xxk rfl rfl ?_
  rw [X1T,List.length_range,show 2*L.length - L.length=L.length by omega,X05]
 have nx:=next (i+1)
 rw [X85] at nx
 have hz:(zs (List.range i)).length=i:=by rw [X0m,List.length_range]
 generalize zs (List.range i)=Z at *
 have f1:((i:Int)<L.length)=True:=eq_true (by omega)
 have f2:(i<L.length)=True:=eq_true hi2
 have hap:=X7c Z (i:Int)
 rw [hz] at hap
 refine X00 1000 ?_
 simp only [X05,w1,f1,f2,Int.toNat_natCast,↓X03,wA,seval,wE]
 exact ⟨⟨by omega,by omega⟩,nx _ (by omega) (by omega) (X09 rfl (by simp [X0p]) (by simp [X0q,X0P,X05,I]) (by rw [← hap]; rfl))⟩
theorem Xwg (L:List V2) (N:Nat) (R:List Nat) (p k:Nat) (h:Rok L R) (hd:R.Nodup) (hN:R.length≤N) (h3:3<R.length) (hp:p<R.length) (hs:X0Y L k) (hk:k≤10000) :
  HCall Tryz.prog 275 [.ref 0 0 0,I p] (rmH L N R) (.agg [I (nr R (p+R.length - 1)),I (R.getD p 0:Nat),I (nr R (p+R.length+1))]) (rmH L N (X6G L (R.length - 1) (R.eraseIdx p))):=by
 have c1:=X9B L R p h (by have:=h.len; omega)
 have cd:=XdO (.row 0 2 (ofL [X0A L,.osl 1 (N - R.length) 1 0 R.length])) (zs R) (N - R.length) p (by rw [X0m]; exact hp)
 rw [X0m,Xid] at cd
 have hl:(R.eraseIdx p).length=R.length - 1:=by rw [List.length_eraseIdx,if_pos hp]
 have cc:=XoA L N (R.eraseIdx p) k (X5o h h3 hp) (hd.eraseIdx p) (by omega) hs hk
 rw [hl] at cc
 have v2:=X6F R p
 have hR:=h
 obtain ⟨h0,hn,hmem,hL⟩:=hR
 generalize X6G L (R.length - 1) (R.eraseIdx p)=R2 at *
 generalize nr R (p+R.length - 1)=a at *
 generalize nr R (p+R.length+1)=c at *
 generalize R.getD p 0=b at *
 have f1:((p:Int)<R.length)=True:=eq_true (by omega)
 have f2:(p<R.length)=True:=eq_true hp
 have f3:(p+1≤R.length)=True:=eq_true (by omega)
 have w1:=wj p (by omega)
 refine HCall.introC (fn:=Tryz.f275) Tryz.call275 Tryz.func275 rfl mixed 8 [] [] [] (by kernel_rfl) (Nat.le_of_ble_eq_true rfl) (X06 (X0V (by simp [X08]))) (fun o ho=>((X3m _ _ _).2 o ho).1) (X00 1000 ?_)
 simp only [AS.start,X1T,List.cons_append,List.nil_append,↓X03,wA,seval,wE]
 refine X2l c1 rfl ⟨Xdc (N:=N) (rest:=[.row 0 3 (ofL [I 0,I 0,I 0])]),X1h (X08 _) rfl,trivial⟩ (Xp7 (by simp [I,X6p])) ?_
 simp only [w1,f1,f2,f3,v2,Int.toNat_natCast,↓X03,wA,seval,wE]
 have o2:∀ o∈[AO.row 0 2 (ofL [X0A L,.osl 1 (N - R.length) 1 0 R.length]),.row (N - R.length+1) (R.length - 1) (slF I 0 (zs (R.eraseIdx p)))],o≠.unborn∧∀ v n f,o≠.con v n f:=fun o ho=>by
  simp only [List.mem_cons,List.not_mem_nil,or_false] at ho
  rcases ho with rfl | rfl <;> exact ⟨by simp,by simp⟩
 have bA:∀ a∈[AV.osl 1 (N - R.length) 1 0 R.length,I p,I ((p+1:Nat):Int)],Bel 2 a:=fun a ha=>by
  simp only [List.mem_cons,List.not_mem_nil,or_false] at ha
  rcases ha with rfl | rfl | rfl
  ·exact Xfj (by omega)
  ·exact X06 (X08 _)
  ·exact X06 (X08 _)
 have bR:∀ a∈[AV.ref 0 0 0],Bel 2 a:=fun a ha=>by
  rw [List.mem_singleton.1 ha]
  have:Bel 2 (.ref 0 0 0)=True:=by simp [X0L]
  exact this▸trivial
 refine X4f (H1:=rmH L N R) (H1':=[AO.row 0 2 (ofL [X0A L,.osl 1 (N - R.length) 1 0 R.length]),.row (N - R.length+1) (R.length - 1) (slF I 0 (zs (R.eraseIdx p)))]) (rest:=[.row 0 3 (ofL [I 0,I 0,I 0]),.row 0 3 (ofL [I a,I b,I c])]) rfl cd rfl rfl bA (fun o ho=>((X3m L N R).2 o ho).1) (fun o ho=>((X3m L N R).2 o ho).2.1) (fun o ho=>(o2 o ho).1) (X1V (fun o ho=>((X3m L N R).2 o ho).2.2) (fun o ho=>(o2 o ho).2)) (X0X _) ?_
 simp only [List.cons_append,List.nil_append,↓X03,wA,seval,wE]
 refine X4f (H1:=rmH L N (R.eraseIdx p)) (H1':=rmH L N R2) (rest:=[.row 0 3 (ofL [I 0,I 0,I 0]),.row 0 3 (ofL [I a,I b,I c])]) rfl cc (by rw [X1T,hl,show N - (R.length - 1)=N - R.length+1 by omega]; rfl) rfl bR (fun o ho=>((X3m L N _).2 o ho).1) (fun o ho=>((X3m L N _).2 o ho).2.1) (fun o ho=>((X3m L N _).2 o ho).2.1) (X1V (fun o ho=>((X3m L N _).2 o ho).2.2) (fun o ho=>((X3m L N _).2 o ho).2.2)) (X0X _) ?_
 simp only [X1T,List.cons_append,List.nil_append,↓X03,wA,seval,wE]
 exact Xmz (v:=.agg [I a,I b,I c]) rfl (by simp [AS.get,X2O,Xrm,rd,X14,ofL,X49,I]) rfl rfl
def rsA (R:List Nat):AV:=.agg [X0f (zs R)]
theorem X1t (R:List Nat):rsA R=.agg [X0f (zs R)]:=nrfl rfl
theorem X3x (R:List Nat):Settled (rsA R):=X0V (by simp [X07])
theorem X8q (R:List Nat) (p:Nat) (k:Int) (m:Nat) (h0:0<R.length) (hn:R.length<1000000) (hk:p+k+R.length=m) (hp:p<1000000) (h1:-10≤k) (h2:k≤10):Fn Tryz.prog 278 [rsA R,I p,I k] (I (nr R m)):=by
 have w1:IntKind.i64.wrap ((p:Int)+k)=(p:Int)+k:=by rw [IntKind.wrap_i64]; omega
 have w2:IntKind.i64.wrap ((p:Int)+k+R.length)=(m:Int):=by rw [IntKind.wrap_i64]; omega
 have hmod:(m:Int).tmod R.length=((m % R.length:Nat):Int):=rfl
 have hlt:m % R.length<R.length:=Nat.mod_lt _ h0
 have f1:(((m % R.length:Nat):Int)<R.length)=True:=eq_true (by omega)
 have f2:(m % R.length<R.length)=True:=eq_true hlt
 have f3:(m % R.length+1≤R.length)=True:=eq_true (by omega)
 have f6:((R.length:Int)=0)=False:=eq_false (by omega)
 have f6':(R.length=0)=False:=eq_false (by omega)
 have w3:IntKind.i64.wrap (((m % R.length:Nat):Int))=((m % R.length:Nat):Int):=by rw [IntKind.wrap_i64]; omega
 have v1:=XxM R m
 refine Fq Tryz.call278 Tryz.func278 8 [] [] [] (by simp [X3x,X08]) (X00 1000 ?_)
 simp only [AS.start,X1t,X04,X0m,w1,w2,w3,hmod,f1,f2,f3,f6,f6',v1,Int.toNat_natCast,↓X03,wA,seval,wE]
 exact X0r rfl rfl (X08 _) rfl
theorem XhN (L:List V2) (R:List Nat) (p k:Nat) (h:Rok L R) (hp:p<R.length) (hs:X0Y L k) (hk:k≤10000):Fn Tryz.prog 292 [X0A L,rsA R,I p] (I (sdF L R p)):=by
 have c1:=X8q R p (-1) (p+R.length - 1) h.pos h.len (by have:=h.pos; omega) (by have:=h.len; omega) (by omega) (by omega)
 have c3:=X8q R p 1 (p+R.length+1) h.pos h.len (by omega) (by have:=h.len; omega) (by omega) (by omega)
 have c2:=X4s (L.getD (nr R (p+R.length - 1)) v0) (L.getD (R.getD p 0) v0) (L.getD (nr R (p+R.length+1)) v0) (by have:=hs (nr R (p+R.length - 1)); unfold vs; omega) (by have:=hs (R.getD p 0); unfold vs; omega) (by have:=hs (nr R (p+R.length+1)); unfold vs; omega)
 obtain ⟨h0,hn,hmem,hL⟩:=h
 have m1:=hmem ((p+R.length - 1) % R.length)
 have m2:=hmem ((p+R.length+1) % R.length)
 have m3:=hmem p
 change nr R (p+R.length - 1)<L.length at m1
 change nr R (p+R.length+1)<L.length at m2
 unfold sdF
 generalize nr R (p+R.length - 1)=a at *
 generalize nr R (p+R.length+1)=c at *
 have v2:=X6F R p
 generalize R.getD p 0=b at *
 have f1:((p:Int)<R.length)=True:=eq_true (by omega)
 have f2:(p<R.length)=True:=eq_true hp
 have f3:(p+1≤R.length)=True:=eq_true (by omega)
 have a1:((a:Int)<L.length)=True:=eq_true (by omega)
 have a2:(a<L.length)=True:=eq_true m1
 have a3:(a*8+8≤L.length*8)=True:=eq_true (by omega)
 have b1:((b:Int)<L.length)=True:=eq_true (by omega)
 have b2:(b<L.length)=True:=eq_true m3
 have b3:(b*8+8≤L.length*8)=True:=eq_true (by omega)
 have e1:((c:Int)<L.length)=True:=eq_true (by omega)
 have e2:(c<L.length)=True:=eq_true m2
 have e3:(c*8+8≤L.length*8)=True:=eq_true (by omega)
 have va:=vF L a
 have vb:=vF L b
 have vc:=vF L c
 refine Fq Tryz.call292 Tryz.func292 7 [] [] [] (by simp [X0b,X3x,X08]) (X00 1000 ?_)
 simp only [AS.start,X1t,X05,X04,X0m,↓X03,wA,seval,wE]
 refine X01 c1 (by simp only [X1t,X04,X0m]; rfl) ?_
 simp only [X1t,X05,X04,X0m,f1,f2,f3,a1,a2,a3,b1,b2,b3,e1,e2,e3,va,vb,vc,v2,Int.toNat_natCast,↓X03,wA,seval,wE]
 refine X01 c3 (by simp only [X1t,X04,X0m]; rfl) ?_
 simp only [X1t,X05,X04,X0m,f1,f2,f3,a1,a2,a3,b1,b2,b3,e1,e2,e3,va,vb,vc,v2,Int.toNat_natCast,↓X03,wA,seval,wE]
 refine X01 c2 rfl ?_
 simp only [↓X03,wA,seval,wE]
 exact X0r rfl rfl (X08 _) rfl
theorem Xxn (a b c q:V2) (ha:vb a≤vs) (hb:vb b≤vs) (hc:vb c≤vs) (hq:vb q≤vs):Fn Tryz.prog 293 [vA a,vA b,vA c,vA q] (.bool (decide (inT a b c q))):=by
 have c1:=X4s a b q ha hb hq
 have c2:=X4s b c q hb hc hq
 have c3:=X4s c a q hc ha hq
 have hin:decide (inT a b c q)=decide (0≤X3H a b q∧0≤X3H b c q∧0≤X3H c a q):=decide_eq_decide.2 Iff.rfl
 generalize decide (inT a b c q)=E at *
 generalize X3H a b q=x at *
 generalize X3H b c q=y at *
 generalize X3H c a q=z at *
 refine Fq Tryz.call293 Tryz.func293 9 [] [] [] (by simp [X0k]) (X00 1000 ?_)
 simp only [AS.start,↓X03,wA,seval,wE]
 refine X01 c1 rfl ?_
 by_cases h1:0≤x
 rotate_left
 ·have g1:(0≤x)=False:=eq_false h1
  have hE:E=false:=by rw [hin]; exact decide_eq_false (fun h=>h1 h.1)
  simp only [g1,↓X03,wA,seval,wE]
  exact X0r (v:=.bool false) rfl rfl (X02 _) (by rw [hE])
 have g1:(0≤x)=True:=eq_true h1
 simp only [g1,↓X03,wA,seval,wE]
 refine X01 c2 rfl ?_
 by_cases h2:0≤y
 rotate_left
 ·have g2:(0≤y)=False:=eq_false h2
  have hE:E=false:=by rw [hin]; exact decide_eq_false (fun h=>h2 h.2.1)
  simp only [g1,g2,↓X03,wA,seval,wE]
  exact X0r (v:=.bool false) rfl rfl (X02 _) (by rw [hE])
 have g2:(0≤y)=True:=eq_true h2
 simp only [g1,g2,↓X03,wA,seval,wE]
 refine X01 c3 rfl ?_
 by_cases h3:0≤z
 rotate_left
 ·have g3:(0≤z)=False:=eq_false h3
  have hE:E=false:=by rw [hin]; exact decide_eq_false (fun h=>h3 h.2.2)
  simp only [g1,g2,g3,↓X03,wA,seval,wE]
  exact X0r (v:=.bool false) rfl rfl (X02 _) (by rw [hE])
 have g3:(0≤z)=True:=eq_true h3
 have hE:E=true:=by rw [hin]; exact decide_eq_true ⟨h1,h2,h3⟩
 simp only [g1,g2,g3,↓X03,wA,seval,wE]
 exact X0r (v:=.bool true) rfl rfl (X02 _) (by rw [hE])
theorem Xi0 {R:List Nat} {i:Nat} (h:i<R.length):R.take (i+1)=R.take i ++ [R.getD i 0]:=by
 rw [List.take_add_one,List.getD_eq_getElem?_getD,List.getElem?_eq_getElem h]; rfl
theorem Xp0 {R:List Nat} {i:Nat} (h:i<R.length):(R.take (i+1)).eraseIdx i=R.take i:=by
 have hl:(R.take i).length=i:=by rw [List.length_take]; omega
 rw [Xi0 h,List.eraseIdx_append_of_length_le (by omega),hl,Nat.sub_self]
 simp
theorem XoZ {R:List Nat} {i p:Nat} (h:i<R.length) (hp:i≠p):(R.take (i+1)).eraseIdx p=(R.take i).eraseIdx p ++ [R.getD i 0]:=by
 have hl:(R.take i).length=i:=by rw [List.length_take]; omega
 rw [Xi0 h]
 by_cases hlt:p<i
 ·rw [List.eraseIdx_append_of_lt_length (by omega)]
 ·rw [List.eraseIdx_of_length_le (by simp; omega),List.eraseIdx_of_length_le (by omega)]
theorem Xv1 (R:List Nat) (x:Nat):zs (R ++ [x])=zs R ++ [(x:Int)]:=by unfold zs; rw [List.map_append]; rfl
theorem XbV (R:List Nat) (p:Nat) (hn:R.length<1000000) (hp:p<1000000):Fn Tryz.prog 280 [rsA R,I p] (rsA (R.eraseIdx p)):=by
 have s0:∀ v n l,X1j 3 (.row v n (slF I 0 l))=True:=fun v n l=>eq_true fun j _=>X06 (X08 _)
 refine Fq Tryz.call280 Tryz.func280 7 [] [6,70000002,7001] [] (by simp [X3x,X08]) (X00 1000 ?_)
 simp only [AS.start,X1t,X04,X0m,↓X03,wA,seval,wE]
 refine X0d (fun i:Nat=>⟨7,[],[rsA R,I p,.ref 0 0 0,.any,.ref 1 0 0,.ref 2 0 0,I i],[],[.con 0 1 (ofL [X0f (zs R)]),.row 0 1 (ofL [.sl 0 0 (fun _=>.any) true]),.row 0 1 (ofL [.osl 3 ((R.take i).eraseIdx p).length 1 0 ((R.take i).eraseIdx p).length]),.row ((R.take i).eraseIdx p).length ((R.take i).eraseIdx p).length (slF I 0 (zs ((R.take i).eraseIdx p)))]⟩) (fun i=>i≤R.length) (fun i=>R.length - i) 0 (by omega)
  (Sub.trans (X1a 0 rfl) ((X1v 2 1 (fun _=>.sl 0 0 (fun _=>.any) true) rfl (Nat.le_refl _) (fun j hj=>by have e:j=0:=Nat.lt_one_iff.1 hj; subst e; rfl)).trans ((X5u 2 1 (slF I 0 []) rfl 1 (Nat.le_refl _)).trans ((X1v 2 1 (ofL [.osl 3 0 1 0 0]) rfl (Nat.le_refl _) (fun j hj=>by have e:j=0:=Nat.lt_one_iff.1 hj; subst e; rfl)).trans (X09 rfl (by simp [X0p,X1t,X04,X0m,I]) (by simp [X0q]) (by simp [X04,X0m,zs])))))) ?_
 intro i hi next
 have w1:=wj i (by omega)
 by_cases hi2:i<R.length
 rotate_left
 ·obtain rfl:i=R.length:=by omega
  rw [List.take_length] at *
  refine X00 1000 ?_
  simp only [X1t,X04,X0m,Int.lt_irrefl,Nat.lt_irrefl,↓X03,wA,seval,wE]
  have hz:=X7S (l:=zs (R.eraseIdx p)) (H:=[.con 0 1 (ofL [.sl R.length R.length (slF I 0 (zs R)) false]),.row 0 1 (ofL [.osl 3 (R.eraseIdx p).length 1 0 (R.eraseIdx p).length]),.row 0 1 (ofL [.osl 3 (R.eraseIdx p).length 1 0 (R.eraseIdx p).length]),.row (R.eraseIdx p).length (R.eraseIdx p).length (slF I 0 (zs (R.eraseIdx p)))]) (id:=3) (ver:=(R.eraseIdx p).length) (n:=(R.eraseIdx p).length) rfl (by rw [X0m]; exact Nat.le_refl _)
  rw [X0m] at hz
  exact X5K (v:=.agg [.osl 3 (R.eraseIdx p).length 1 0 (R.eraseIdx p).length]) rfl (by simp [AS.get,X2O,Xhl,rd,X14,ofL,X49]) (X4a ⟨hz,trivial⟩)
 have f1:((i:Int)<R.length)=True:=eq_true (by omega)
 have f2:(i<R.length)=True:=eq_true hi2
 have f3:(i+1≤R.length)=True:=eq_true (by omega)
 have v1:=X6F R i
 have nx:=next (i+1)
 by_cases hip:i=p
 ·subst hip
  have g1:((i:Int)=(i:Int))=True:=eq_true rfl
  have e0:(R.take i).eraseIdx i=R.take i:=List.eraseIdx_of_length_le (by rw [List.length_take]; omega)
  rw [Xp0 hi2] at nx
  rw [e0]
  refine X00 1000 ?_
  simp only [X1t,X04,X0m,w1,f1,f2,f3,v1,g1,Int.toNat_natCast,↓X03,wA,seval,wE]
  exact nx _ (by omega) (by omega) (X09 rfl (by simp [X0p,X1t,X04,X0m,I]) (by simp [X0q]) (by simp [X04,X0m]))
 ·have g1:((i:Int)=(p:Int))=False:=eq_false (by omega)
  have hle:((R.take i).eraseIdx p).length≤R.length:=by
   have:=List.length_eraseIdx_le (R.take i) p
   rw [List.length_take] at this; omega
  rw [XoZ hi2 hip,Xv1,List.length_append,List.length_singleton] at nx
  generalize (R.take i).eraseIdx p=W at *
  have hap:=X7c (zs W) ((R.getD i 0:Nat):Int)
  rw [X0m] at hap
  refine X00 1000 ?_
  simp only [X1t,X04,X0m,w1,f1,f2,f3,v1,g1,Int.toNat_natCast,↓X03,wA,seval,wE]
  exact ⟨⟨by omega,by omega⟩,nx _ (by omega) (by omega) (X09 rfl (by simp [X0p,X1t,X04,X0m,I]) (by simp [X0q]) (by rw [← hap]; simp [X04,X0m,I]))⟩
theorem dlt {a b:Int} (h:a<b):(a<b)=True:=eq_true h
theorem dltF {a b:Int} (h:b≤a):(a<b)=False:=eq_false (by omega)
theorem dle {a b:Int} (h:a≤b):(a≤b)=True:=eq_true h
theorem dleF {a b:Int} (h:b<a):(a≤b)=False:=eq_false (by omega)
theorem deq {a b:Int} (h:a=b):(a=b)=True:=eq_true h
theorem deqF {a b:Int} (h:a≠b):(a=b)=False:=eq_false h
theorem nlt {a b:Nat} (h:a<b):(a<b)=True:=eq_true h
theorem nltF {a b:Nat} (h:b≤a):(a<b)=False:=eq_false (by omega)
theorem nle {a b:Nat} (h:a≤b):(a≤b)=True:=eq_true h
theorem nleF {a b:Nat} (h:b<a):(a≤b)=False:=eq_false (by omega)
theorem neq' {a b:Nat} (h:a=b):(a=b)=True:=eq_true h
theorem neqF {a b:Nat} (h:a≠b):(a=b)=False:=eq_false h
theorem Xym {x:Int} (h:-9223372036854775808≤x∧x<9223372036854775808):IntKind.i64.wrap x=x:=by rw [IntKind.wrap_i64]; omega
theorem dnat {n:Nat}:(n:Int).toNat=n:=Int.toNat_natCast n
theorem XyJ (f:Nat→AV) (i:Nat) (v:AV) (j:Nat):upd f i v j=if j=i then v else f j:=nrfl rfl
def Xvi (l:List AV) (i:Nat) (a:AV):Nat→AV:=upd (ofL l) i a
def XoG (x:AV) (f:Nat→AV):Nat→AV:=fun j=>match j with | 0=>x | j+1=>f j
theorem Xxx (l:List AV) (i:Nat) (a:AV):upd (ofL l) i a=Xvi l i a:=nrfl rfl
theorem Xxz (x a:AV) (l:List AV):Xvi (x :: l) 0 a=ofL (a :: l):=by
 funext j; unfold Xvi upd ofL; cases j <;> simp
theorem Xxy (x a:AV) (l:List AV) (n:Nat):Xvi (x :: l) (n+1) a=XoG x (Xvi l n a):=by
 funext j; unfold Xvi upd ofL XoG; cases j <;> simp
theorem XsW (x:AV) (l:List AV):XoG x (ofL l)=ofL (x :: l):=by
 funext j; unfold ofL XoG; cases j <;> simp
def sg (x:Rat):Bool:=decide (x.num<0)
theorem X0v (x:Rat):decide (x.num<0)=sg x:=nrfl rfl
set_option linter.defProp false in
def wD:=And.intro @XyJ (And.intro @Xxx <| And.intro @Xxz <| And.intro @Xxy <| And.intro @XsW <| And.intro @dlt (And.intro @dltF (And.intro @dle (And.intro @dleF (And.intro @deq (And.intro @deqF (And.intro @nlt (And.intro @nltF (And.intro @nle (And.intro @nleF (And.intro @neq' (And.intro @neqF (And.intro @Xym @dnat)))))))))))))
end
end Go.Ab.N
