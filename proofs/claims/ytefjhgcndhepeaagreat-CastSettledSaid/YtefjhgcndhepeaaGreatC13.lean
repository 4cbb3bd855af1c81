/- Contracts of functions of these chapters, for every argument that fits, and what they need. -/
import Derived.Test.YtefjhgcndhepeaaGreatC12
import Derived.Shelf.Small.Bits
import Derived.Test.YtefjhgcndhepeaaGreatC7
import Derived.Test.YtefjhgcndhepeaaGreatC10
set_option linter.unusedSimpArgs false
set_option linter.unusedVariables false
open Nat renaming reducePow → Y1, reduceLT → Y2, reduceLeDiff → Y3, reduceEqDiff → Y4, reduceAdd → Y5, reduceMul → Y6, reduceSub → Y7, reduceBEq → Y8, reduceDiv → Y9, reduceMod → YA
namespace Go.Ab.N
open Go Go.RowKit Go.Proofs
noncomputable section
set_option maxRecDepth 10000
set_option maxHeartbeats 4000000
open Classical
def QH (l:List Int) (W H M k:Nat):Int×Int:=(1+Ab.atF l (3+k:Nat) ((W:Int) - 1),if k=M then (H:Int) else k)
def JK (l:List Int) (W H M:Nat):List (Int×Int):=(List.range (M+1)).map (QH l W H M)
def J4 (l:List Int) (W H M:Nat):List (Int×Int):=(0,0) :: JK l W H M ++ [(0,(H:Int))]
def Z8 (l:List Int) (W H M i:Nat):List (Int×Int):=[QH l W H M 0,((W:Int),0),((W:Int),(H:Int))] ++ (List.range i).map fun i=>QH l W H M (M - i)
def Js (l:List Int) (W H M:Nat):List (Int×Int):=Z8 l W H M M
def PG (l:List Int):Int×Int:=(Ab.atF l 8 9 - 4,Ab.atF l 9 9 - 4)
def aU (l:List Int):Nat:=(Ab.atF l 7 4).toNat
def A6 (l:List Int) (W H M:Nat):List (Int×Int):=(Js l W H M).map (rE (aU l) (PG l))
def DL (l:List Int):V2:=Ku ((4 - aU l) % 4) KZ
def DK (l:List Int):V2:=v0.sub (M0 (DL l) (JA (PG l)))
def Io (l:List Int) (M:Nat):FV:=⟨0,1,1,(M+2:Nat),M,DL l,DK l,DK l⟩
def Ie (a b:PV) (f:FV):List AV:=XD a ++ (XD b ++ Qc f)
def KI:List AV:=[I 0,I 0,I 0,I 0,I 0] ++ (XM ++ (XM ++ XM))
theorem PO (l:List Int) (W H M k:Nat) (h:k≤M):(JK l W H M).getD k (0,0)=QH l W H M k:=Gh _ _ _ _ (by omega)
theorem PP (l:List Int) (W H M k:Nat) (hW:4≤W∧W≤7) (hH:H≤6) (hk:k≤3):(1≤(QH l W H M k).1∧(QH l W H M k).1<W)∧0≤(QH l W H M k).2∧(QH l W H M k).2≤6:=by
 have:=Q1 l (3+k:Nat) ((W:Int) - 1) (by omega)
 unfold QH
 simp only
 refine ⟨by omega,?_⟩
 split <;> omega
theorem m8 (C:List (Int×Int)) (x y:Int×Int) (j:Nat) (h:j<C.length):(x :: C ++ [y]).getD (j+1) (0,0)=C.getD j (0,0):=by
 rw [List.getD_eq_getElem?_getD,List.getD_eq_getElem?_getD,List.cons_append,List.getElem?_cons_succ,List.getElem?_append_left h]
theorem ae (C:List (Int×Int)) (h:Int) (j:Nat) (hj:j<(C.length+2)*2):QM ((1+C.length)*2) (QM 2 (Xq [I 0,I 0]) (C.length*2) (Xw KJ 2 (0,0) C)) 2 (Xq [I 0,I h]) j=Xw KJ 2 (0,0) ((0,0) :: C ++ [(0,h)]) j:=by
 unfold QM Xw
 by_cases h1:j<(1+C.length)*2
 ·rw [if_pos h1]
  by_cases h2:j<2
  ·rw [if_pos h2]
   match j,h2 with
   | 0,_=>rfl
   | 1,_=>rfl
  ·rw [if_neg h2,if_pos (by omega)]
   obtain ⟨i,rfl⟩:∃ i,j=i+2:=⟨j - 2,by omega⟩
   rw [show (i+2) / 2=i / 2+1 by omega,show (i+2) % 2=i % 2 by omega,show i+2 - 2=i by omega,m8 C (0,0) (0,h) (i / 2) (by omega)]
 ·rw [if_neg h1,if_pos (by omega)]
  have e:((0,0) :: C ++ [(0,h)]).getD (j / 2) (0,0)=(0,h):=by
   rw [show j / 2=C.length+1 by omega,List.getD_eq_getElem?_getD,List.cons_append,List.getElem?_cons_succ,List.getElem?_append_right (Nat.le_refl _),Nat.sub_self]; rfl
  rw [e]
  obtain ⟨i,hi,rfl⟩:∃ i,i<2∧j=(1+C.length)*2+i:=⟨j - (1+C.length)*2,by omega,by omega⟩
  rw [Nat.add_sub_cancel_left,show ((1+C.length)*2+i) % 2=i by omega]
  match i,hi with
  | 0,_=>rfl
  | 1,_=>rfl
theorem UQ (a b c d:Int×Int) (j:Nat) (hj:j<8):QM 6 (Xq (KJ a ++ (KJ b ++ KJ c))) 2 (Xq (KJ d)) j=Xw KJ 2 (0,0) [a,b,c,d] j:=by
 match j,hj with
 | 0,_=>rfl
 | 1,_=>rfl
 | 2,_=>rfl
 | 3,_=>rfl
 | 4,_=>rfl
 | 5,_=>rfl
 | 6,_=>rfl
 | 7,_=>rfl
def FP (g:Int×Int→Int×Int) (S:List (Int×Int)) (k:Nat):List (Int×Int):=(S.take k).map g ++ S.drop k
theorem VT (g:Int×Int→Int×Int) (S:List (Int×Int)) (k:Nat) (h:k<S.length):(FP g S k).getD k (0,0)=S.getD k (0,0):=by
 unfold FP
 rw [List.getD_eq_getElem?_getD,List.getElem?_append_right (by simp; omega),List.getD_eq_getElem?_getD]
 simp [Nat.min_eq_left (Nat.le_of_lt h)]
theorem ia (g:Int×Int→Int×Int) (S:List (Int×Int)) (k:Nat) (h:k≤S.length):(FP g S k).length=S.length:=by unfold FP; simp; omega
theorem ib (g:Int×Int→Int×Int) (S:List (Int×Int)) (k:Nat) (h:k<S.length):(FP g S k).set k (g (S.getD k (0,0)))=FP g S (k+1):=by
 refine List.ext_getElem? fun j=>?_
 unfold FP
 rw [List.getElem?_set]
 by_cases hj:k=j
 ·subst hj
  rw [if_pos rfl,if_pos (by simp; omega),List.getElem?_append_left (by simp; omega),List.getElem?_map,List.getElem?_take,if_pos (by omega),List.getElem?_eq_getElem h,List.getD_eq_getElem?_getD,List.getElem?_eq_getElem h]; rfl
 ·rw [if_neg hj]
  by_cases hlt:j<k
  ·rw [List.getElem?_append_left (by simp; omega),List.getElem?_append_left (by simp; omega),List.getElem?_map,List.getElem?_map,List.getElem?_take,List.getElem?_take,if_pos hlt,if_pos (by omega)]
  ·rw [List.getElem?_append_right (by simp; omega),List.getElem?_append_right (by simp; omega),List.getElem?_drop,List.getElem?_drop]
   congr 1
   simp; omega
theorem u9 (l:List (Int×Int)) (k:Nat) (x:Int×Int) (hk:k<l.length):CF (CF (Xw KJ 2 (0,0) l) (k*2) (I x.1)) (k*2+1) (I x.2)=Xw KJ 2 (0,0) (l.set k x):=by
 funext j
 have e:(l.set k x).getD k (0,0)=x:=by rw [List.getD_eq_getElem?_getD,List.getElem?_set_self hk]; rfl
 unfold CF Xw
 by_cases h1:j=k*2+1
 ·rw [if_pos h1,h1,show (k*2+1) / 2=k by omega,show (k*2+1) % 2=1 by omega,e]; rfl
 ·rw [if_neg h1]
  by_cases h2:j=k*2
  ·rw [if_pos h2,h2,show (k*2) / 2=k by omega,show (k*2) % 2=0 by omega,e]; rfl
  ·rw [if_neg h2]
   have:(l.set k x).getD (j / 2) (0,0)=l.getD (j / 2) (0,0):=by rw [List.getD_eq_getElem?_getD,List.getElem?_set_ne (by omega),List.getD_eq_getElem?_getD]
   rw [this]
theorem F2 (l:List Int) (W H M:Nat) (hW:4≤W∧W≤7) (hH:H≤6) (hM:M≤3) (k:Nat) (hk:k≤M):(0≤(QH l W H M k).1∧(QH l W H M k).1≤7)∧0≤(QH l W H M k).2∧(QH l W H M k).2≤7:=by
 have:=PP l W H M k hW hH (by omega)
 omega
theorem Lg (l:List Int) (W H M:Nat) (hW:4≤W∧W≤7) (hH:H≤6) (hM:M≤3):QY (J4 l W H M):=fun c hc=>by
 unfold J4 at hc
 rw [List.mem_append,List.mem_cons,List.mem_singleton] at hc
 rcases hc with (rfl | hc) | rfl
 ·exact ⟨⟨by decide,by decide⟩,⟨by decide,by decide⟩⟩
 ·obtain ⟨k,hk,rfl⟩:=List.mem_map.1 hc
  have:=F2 l W H M hW hH hM k (by have:=List.mem_range.1 hk; omega)
  omega
 ·show (-65536≤(0:Int)∧(0:Int)≤65536)∧(-65536≤(H:Int)∧(H:Int)≤65536)
  omega
theorem HL (l:List Int) (W H M:Nat) (hW:4≤W∧W≤7) (hH:H≤6) (hM:M≤3):∀ c∈Js l W H M,(0≤c.1∧c.1≤7)∧0≤c.2∧c.2≤7:=fun c hc=>by
 unfold Js Z8 at hc
 simp only [List.mem_append,List.mem_cons,List.not_mem_nil,or_false,List.mem_map,List.mem_range] at hc
 rcases hc with (rfl | rfl | rfl) | ⟨k,hk,rfl⟩
 ·exact F2 l W H M hW hH hM 0 (by omega)
 ·show (0≤(W:Int)∧(W:Int)≤7)∧0≤(0:Int)∧(0:Int)≤7
  omega
 ·show (0≤(W:Int)∧(W:Int)≤7)∧0≤(H:Int)∧(H:Int)≤7
  omega
 ·exact F2 l W H M hW hH hM (M - k) (by omega)
theorem HT (l:List Int) (W H M:Nat) (hW:4≤W∧W≤7) (hH:H≤6) (hM:M≤3):QY (A6 l W H M):=fun c hc=>by
 obtain ⟨p,hp,rfl⟩:=List.mem_map.1 hc
 have h1:=HL l W H M hW hH hM p hp
 have h2:=Gq p 7 (by omega) (by omega) (aU l)
 have b8:=Q1 l 8 9 (by omega)
 have b9:=Q1 l 9 9 (by omega)
 show (-65536≤(Z0 (aU l) p).1+(Ab.atF l 8 9 - 4)∧(Z0 (aU l) p).1+(Ab.atF l 8 9 - 4)≤65536)∧(-65536≤(Z0 (aU l) p).2+(Ab.atF l 9 9 - 4)∧(Z0 (aU l) p).2+(Ab.atF l 9 9 - 4)≤65536)
 omega
theorem LC (l:List Int):vb (DL l)≤10∧vb (DK l)≤100:=by
 have h1:vb (DL l)≤10:=by unfold DL; rw [Hc]; exact DY
 have b8:=Q1 l 8 9 (by omega)
 have b9:=Q1 l 9 9 (by omega)
 have h2:vb (JA (PG l))≤3:=by
  have q1:=ZC (PG l).1 3 (by omega) (QO (by unfold PG; simp only; exact ⟨by omega,by omega⟩))
  have q2:=ZC (PG l).2 3 (by omega) (QO (by unfold PG; simp only; exact ⟨by omega,by omega⟩))
  unfold vb JA
  simp only
  omega
 have h3:=Dd (DL l) (JA (PG l))
 have h4:=Kd v0 (M0 (DL l) (JA (PG l)))
 have:=DZ
 refine ⟨h1,?_⟩
 unfold DK
 omega
def I1 (l:List Int) (W H:Nat):List Int:=[(W:Int) - 4,(H:Int) - 3,0,Ab.atF l 3 ((W:Int) - 1),Ab.atF l 4 ((W:Int) - 1),0,0,Ab.atF l 7 4]
def Av (l:List Int) (W H M:Nat) (x9 x10 x11 x12 x13 x14 x16 x17 x18:AV) (r:List AO):AS:=⟨20,[],[X9 l,.any,.ref 0 0 0,I W,I H,I M,.osl 1 (M+1) 2 0 (M+1),.any,.any,x9,x10,x11,x12,x13,x14,.any,x16,x17,x18,.any],[],[.row 0 79 (Xq (Ja ++ (Ja ++ KI))),.row (M+1) ((M+1)*2) (Xw KJ 2 (0,0) (JK l W H M))] ++ r⟩
theorem OW (l:List Int) (W H M i:Nat):Z8 l W H M (i+1)=Z8 l W H M i ++ [QH l W H M (M - i)]:=by
 unfold Z8; rw [Lv,List.append_assoc]
theorem HK (l:List Int) (W H M i:Nat):(Z8 l W H M i).length=3+i:=by simp [Z8]; omega
theorem HN (a b:PV) (f:FV):∀ x∈Ie a b f,Settled x:=fun x h=>by
 unfold Ie at h
 rw [List.mem_append,List.mem_append] at h
 rcases h with h | h | h
 ·exact XF a x h
 ·exact XF b x h
 ·exact Qj f x h
theorem th (m v n:Nat) (L:List (Int×Int)):XI m (.row v n (Xw KJ 2 (0,0) L))=True:=eq_true fun j _=>X6 (Xd (Kp _) _)
theorem SF (f:Nat→AV) (t:Bool):Settled (.sl 0 0 f t):=J0 fun j hj=>absurd hj (Nat.not_lt_zero j)
theorem uz (m v n:Nat):XI m (.row v n (Xq (Ja ++ (Ja ++ KI))))=True:=eq_true fun j _=>X6 (Xd (l:=Ja ++ (Ja ++ KI)) (by simp [Ja,KI,XM,X8,X3,SF]) _)
theorem LB (l:List Int) (hl:Fy l) (W H M:Nat) (hW:(4:Int)+Ab.atF l 0 4=W) (hH:(3:Int)+Ab.atF l 1 4=H) (hM:(1:Int)+Ab.atF l 2 3=M) (A' B':PV) (F':FV)
  (hr:¬ (XN (XB (J4 l W H M))∧XN (XB (Js l W H M)))→Fn Tryz.prog 28 [X9 (I1 l W H)] (.agg (Ie A' B' F'))) :
  ∃ A B F,Fn Tryz.prog 28 [X9 l] (.agg (Ie A B F))∧(((XN (XB (J4 l W H M))∧XN (XB (Js l W H M)))∧A=Zo (J4 l W H M) l 10∧B=Zo (A6 l W H M) l 20∧F=Io l M) ∨
   (¬ (XN (XB (J4 l W H M))∧XN (XB (Js l W H M)))∧A=A'∧B=B'∧F=F')):=by
 obtain ⟨A,B,F,hABF⟩:∃ A B F,(((XN (XB (J4 l W H M))∧XN (XB (Js l W H M)))∧A=Zo (J4 l W H M) l 10∧B=Zo (A6 l W H M) l 20∧F=Io l M) ∨
   (¬ (XN (XB (J4 l W H M))∧XN (XB (Js l W H M)))∧A=A'∧B=B'∧F=F')):=by
  by_cases h:XN (XB (J4 l W H M))∧XN (XB (Js l W H M))
  ·exact ⟨_,_,_,.inl ⟨h,rfl,rfl,rfl⟩⟩
  ·exact ⟨_,_,_,.inr ⟨h,rfl,rfl,rfl⟩⟩
 refine ⟨A,B,F,?_,hABF⟩
 obtain ⟨R,hR⟩:∃ R,R=AV.agg (Ie A B F):=⟨_,rfl⟩
 have sR:Settled R:=hR▸Q6 (HN A B F)
 rw [← hR]
 have b0:=Q1 l 0 4 (by omega)
 have b1:=Q1 l 1 4 (by omega)
 have b2:=Q1 l 2 3 (by omega)
 have c0:=JO l 0 4 hl (by omega)
 have c1:=JO l 1 4 hl (by omega)
 have c2:=JO l 2 3 hl (by omega)
 refine Fq Tryz.call28 Tryz.func28 20 [] [37,380000013,380000017] [] (by simp [X7]) (X0 1000 ?_)
 simp (disch:=omega) only [AS.start,X4,↓Xo,wD,↓X2,wA,seval,wE]
 refine X1 c0 rfl ?_
 simp (disch:=omega) only [X4,hW,↓Xo,wD,↓X2,wA,seval,wE]
 refine X1 c1 rfl ?_
 simp (disch:=omega) only [X4,hH,↓Xo,wD,↓X2,wA,seval,wE]
 refine X1 c2 rfl ?_
 simp (disch:=omega) only [X4,hM,↓Xo,wD,↓X2,wA,seval,wE]
 refine Xe (fun k:Nat=>⟨20,[],[X9 l,.any,.ref 0 0 0,I W,I H,I M,.osl 1 k 2 0 k,I k,.any,.any,.any,.any,.any,.any,.any,.any,.any,.any,.any,.any],[],[.row 0 79 (Xq (Ja ++ (Ja ++ KI))),.row k (k*2) (Xw KJ 2 (0,0) ((JK l W H M).take k))]⟩) (fun k=>k≤M+1) (fun k=>M+1 - k) 0 (by omega)
  (Sub.trans (Qg 6 2 (Xw KJ 2 (0,0) []) rfl) (Xa rfl (by simp [AS.put,Xh,X4,I]) (by simp [AS.put,Xi]) (by simp [AS.put,Ja,KI,XM,I]))) ?_
 intro k hk next
 by_cases hk2:k<M+1
 ·have c3:=JO l (3+k:Nat) ((W:Int) - 1) hl (by omega)
  have b3:=Q1 l (3+k:Nat) ((W:Int) - 1) (by omega)
  have htk:(JK l W H M).take (k+1)=(JK l W H M).take k ++ [QH l W H M k]:=by rw [Qq _ (0,0) k (by simp [JK]; omega),PO _ _ _ _ _ (by omega)]
  have nx:=next (k+1)
  rw [htk] at nx
  have hcl:((JK l W H M).take k).length=k:=by simp [JK]; omega
  have hcp:QH l W H M k=(1+Ab.atF l (3+k:Nat) ((W:Int) - 1),if k=M then (H:Int) else k):=rfl
  rw [hcp] at nx
  generalize Ab.atF l (3+k:Nat) ((W:Int) - 1)=x at *
  rw [Int.natCast_add] at c3
  change Fn _ _ [X9 l,I ((3:Int)+k),_] _ at c3
  generalize (JK l W H M).take k=C at *
  by_cases he:k=M
  ·rw [if_pos he] at nx
   have hap:=Q0 KJ 2 (0,0) C (1+x,(H:Int)) (by omega)
   rw [hcl] at hap
   refine X0 1000 ?_
   simp (disch:=omega) only [X4,↓Xo,wD,↓X2,wA,seval,wE]
   refine X1 c3 rfl ?_
   simp (disch:=omega) only [X4,↓Xo,wD,↓X2,wA,seval,wE]
   exact ⟨Ek (1+x,(H:Int)),nx _ (by omega) (by omega) (Xa rfl (by simp [Xh,X4,I]) (by simp [Xi]) (by rw [← hap]; simp [KJ,I]))⟩
  ·rw [if_neg he] at nx
   have hap:=Q0 KJ 2 (0,0) C (1+x,(k:Int)) (by omega)
   rw [hcl] at hap
   refine X0 1000 ?_
   simp (disch:=omega) only [X4,↓Xo,wD,↓X2,wA,seval,wE]
   refine X1 c3 rfl ?_
   simp (disch:=omega) only [X4,↓Xo,wD,↓X2,wA,seval,wE]
   exact ⟨Ek (1+x,(k:Int)),nx _ (by omega) (by omega) (Xa rfl (by simp [Xh,X4,I]) (by simp [Xi]) (by rw [← hap]; simp [KJ,I]))⟩
 obtain rfl:k=M+1:=by omega
 have htk:(JK l W H M).take (M+1)=JK l W H M:=List.take_of_length_le (by simp [JK])
 rw [htk]
 have hCl:(JK l W H M).length=M+1:=by simp [JK]
 have hq:∀ k,k≤M→Xw KJ 2 (0,0) (JK l W H M) (k*2)=I (QH l W H M k).1∧Xw KJ 2 (0,0) (JK l W H M) (k*2+1)=I (QH l W H M k).2:=fun k hk=>by
  rw [K6 KJ 2 (0,0) (JK l W H M) k (by omega),JR KJ 2 (0,0) (JK l W H M) k 1 (by omega),PO _ _ _ _ _ hk]
  exact ⟨rfl,rfl⟩
 have q0:Xw KJ 2 (0,0) (JK l W H M) 0=I (QH l W H M 0).1:=(hq 0 (by omega)).1
 have q1:Xw KJ 2 (0,0) (JK l W H M) 1=I (QH l W H M 0).2:=(hq 0 (by omega)).2
 have hF:J4 l W H M=(0,0) :: JK l W H M ++ [(0,(H:Int))]:=rfl
 have hfr:=ae (JK l W H M) H
 rw [← hF,hCl] at hfr
 have hFl:(J4 l W H M).length=M+3:=by rw [hF]; simp [hCl]
 have hSl:(Js l W H M).length=M+3:=by unfold Js; rw [HK]; omega
 have hcr:=PP l W H M
 have n1:=Lg l W H M (by omega) (by omega) (by omega)
 have n2:=HL l W H M (by omega) (by omega) (by omega)
 refine X0 1000 ?_
 simp (disch:=omega) only [X4,q0,q1,↓Xo,wD,↓X2,wA,seval,wE]
 refine ⟨fun j _=>SL _ _ _ _ _ (by omega) fun a=>⟨rfl,by simp [KJ,I,AV.one]⟩,Ek (0,(H:Int)),?_⟩
 refine Xe (fun i:Nat=>match i with
  | 0=>Av l W H M (.osl 2 1 2 0 (M+3)) (.sl 3 6 (Xq [I (QH l W H M 0).1,I (QH l W H M 0).2,I W,I 0,I W,I H]) true) (I M) .any .any .any .any .any .any [.row 1 ((M+3)*2) (Xw KJ 2 (0,0) (J4 l W H M))]
  | i+1=>Av l W H M (.osl 2 1 2 0 (M+3)) (.osl 3 i 2 0 (4+i)) (I (M - (i+1):Nat)) .any .any .any .any .any .any [.row 1 ((M+3)*2) (Xw KJ 2 (0,0) (J4 l W H M)),.row i ((4+i)*2) (Xw KJ 2 (0,0) (Z8 l W H M (i+1)))])
  (fun i=>i≤M) (fun i=>M - i) 0 (by omega)
  (Sub.trans (QA 2 ((M+3)*2) (Xw KJ 2 (0,0) (J4 l W H M)) rfl (by omega) (fun j hj=>hfr j (by omega))) (Xa rfl (by simp [Av,Xh,X4,I]; omega) (by simp [Xi,Av]) (by simp [Av,Ja,KI,XM,I]))) ?_
 intro i hi next
 match i,hi,next with
 | 0,hi,next =>
  have ho:=UQ (QH l W H M 0) ((W:Int),0) ((W:Int),(H:Int)) (QH l W H M M)
  have w1:=(hq M (by omega)).1
  have w2:=(hq M (by omega)).2
  refine X0 1000 ?_
  simp (disch:=omega) only [Av,X4,List.cons_append,List.nil_append,w1,w2,↓Xo,wD,↓X2,wA,seval,wE]
  exact ⟨Ek (QH l W H M M),next 1 _ (by omega) (by omega) (Sub.trans (QA 3 8 (Xw KJ 2 (0,0) (Z8 l W H M 1)) rfl (by omega) (fun j hj=>ho j hj)) (Xa rfl (by simp [Av,Xh,X4,I]; omega) (by simp [Xi,Av]) (by simp [Av])))⟩
 | i+1,hi,next =>
 by_cases hi2:i+1<M
 ·have w1:=(hq (M - (i+1)) (by omega)).1
  have w2:=(hq (M - (i+1)) (by omega)).2
  have hs:=OW l W H M (i+1)
  have hap:=Q0 KJ 2 (0,0) (Z8 l W H M (i+1)) (QH l W H M (M - (i+1))) (by omega)
  rw [HK,show 3+(i+1)=4+i by omega] at hap
  refine X0 1000 ?_
  simp (disch:=omega) only [Av,X4,List.cons_append,List.nil_append,w1,w2,↓Xo,wD,↓X2,wA,seval,wE]
  exact ⟨Ek (QH l W H M (M - (i+1))),next (i+2) _ (by omega) (by omega) (Xa rfl (by simp [Av,Xh,X4,I]; omega) (by simp [Xi,Av]) (by rw [← hs] at hap; simp [Av,← hap,KJ,I,show 4+i+1=4+(i+1) by omega]))⟩
 obtain rfl:M=i+1:=by omega
 clear next
 have k1:=Mg (J4 l W H (i+1)) n1 (by omega)
 have k2:=Mg (Js l W H (i+1)) (fun c hc=>by have:=n2 c hc; omega) (by omega)
 refine X0 1000 ?_
 simp (disch:=omega) only [Av,X4,List.cons_append,List.nil_append,↓Xo,wD,↓X2,wA,seval,wE]
 refine JI k1 rfl ⟨?_,trivial⟩ (An _) ?_
 ·show JS _ (.osl 2 1 2 0 (i+1+3)) (BT (J4 l W H (i+1)))
  rw [Xg,hFl]
  refine Qz (.inl rfl) (by omega) (fun h=>by omega) fun j hj=>?_
  rw [Nat.zero_add]
  exact (Xd (l:=KJ ((J4 l W H (i+1)).getD (j / 2) (0,0))) (Kp _) _).sees _
 by_cases p1:XN (XB (J4 l W H (i+1)))
 rotate_left
 ·have hr2:=hr (fun h=>p1 h.1)
  rcases hABF with ⟨h,_⟩ | ⟨_,rfl,rfl,rfl⟩
  ·exact absurd h.1 p1
  have a3:=JO l 3 ((W:Int) - 1) hl (by omega)
  have a4:=JO l 4 ((W:Int) - 1) hl (by omega)
  have a7:=JO l 7 4 hl (by omega)
  simp (disch:=omega) only [decide_eq_false p1,Av,X4,List.cons_append,List.nil_append,↓Xo,wD,↓X2,wA,seval,wE]
  refine X1 a3 rfl ?_
  simp (disch:=omega) only [Av,X4,List.cons_append,List.nil_append,↓Xo,wD,↓X2,wA,seval,wE]
  refine X1 a4 rfl ?_
  simp (disch:=omega) only [Av,X4,List.cons_append,List.nil_append,↓Xo,wD,↓X2,wA,seval,wE]
  refine X1 a7 rfl ?_
  simp (disch:=omega) only [Av,X4,List.cons_append,List.nil_append,↓Xo,wD,↓X2,wA,seval,wE]
  refine Qm hr2 ⟨ZQ rfl rfl,trivial⟩ ?_
  simp (disch:=omega) only [Ie,XD,Qc,Ja,KI,XM,X4,List.cons_append,List.nil_append,↓Xo,wD,↓X2,wA,seval,wE]
  exact Zg rfl VP rfl rfl rfl sR (hR.trans rfl)
 simp (disch:=omega) only [decide_eq_true p1,Av,X4,List.cons_append,List.nil_append,↓Xo,wD,↓X2,wA,seval,wE]
 refine JI k2 rfl ⟨?_,trivial⟩ (An _) ?_
 ·show JS _ (.osl 3 i 2 0 (4+i)) (BT (Js l W H (i+1)))
  rw [Xg,hSl,show i+1+3=4+i by omega]
  refine Qz (.inl rfl) (by omega) (fun h=>by omega) fun j hj=>?_
  rw [Nat.zero_add]
  exact (Xd (l:=KJ ((Js l W H (i+1)).getD (j / 2) (0,0))) (Kp _) _).sees _
 by_cases p2:XN (XB (Js l W H (i+1)))
 rotate_left
 ·have hr2:=hr (fun h=>p2 h.2)
  rcases hABF with ⟨h,_⟩ | ⟨_,rfl,rfl,rfl⟩
  ·exact absurd h.2 p2
  have a3:=JO l 3 ((W:Int) - 1) hl (by omega)
  have a4:=JO l 4 ((W:Int) - 1) hl (by omega)
  have a7:=JO l 7 4 hl (by omega)
  simp (disch:=omega) only [decide_eq_false p2,Av,X4,List.cons_append,List.nil_append,↓Xo,wD,↓X2,wA,seval,wE]
  refine X1 a3 rfl ?_
  simp (disch:=omega) only [Av,X4,List.cons_append,List.nil_append,↓Xo,wD,↓X2,wA,seval,wE]
  refine X1 a4 rfl ?_
  simp (disch:=omega) only [Av,X4,List.cons_append,List.nil_append,↓Xo,wD,↓X2,wA,seval,wE]
  refine X1 a7 rfl ?_
  simp (disch:=omega) only [Av,X4,List.cons_append,List.nil_append,↓Xo,wD,↓X2,wA,seval,wE]
  refine Qm hr2 ⟨ZQ rfl rfl,trivial⟩ ?_
  simp (disch:=omega) only [Ie,XD,Qc,Ja,KI,XM,X4,List.cons_append,List.nil_append,↓Xo,wD,↓X2,wA,seval,wE]
  exact Zg rfl VP rfl rfl rfl sR (hR.trans rfl)
 clear hr
 rcases hABF with ⟨_,rfl,rfl,rfl⟩ | ⟨h,_⟩
 rotate_left
 ·exact absurd ⟨p1,p2⟩ h
 have a7:=JO l 7 4 hl (by omega)
 have a8:=JO l 8 9 hl (by omega)
 have a9:=JO l 9 9 hl (by omega)
 have b7:=Q1 l 7 4 (by omega)
 have b8:=Q1 l 8 9 (by omega)
 have b9:=Q1 l 9 9 (by omega)
 have e7:Ab.atF l 7 4=(aU l:Int):=by unfold aU; omega
 have hD:PG l=(Ab.atF l 8 9 - 4,Ab.atF l 9 9 - 4):=rfl
 simp (disch:=omega) only [decide_eq_true p2,Av,X4,List.cons_append,List.nil_append,↓Xo,wD,↓X2,wA,seval,wE]
 refine X1 a7 rfl ?_
 simp (disch:=omega) only [e7,Av,X4,List.cons_append,List.nil_append,↓Xo,wD,↓X2,wA,seval,wE]
 refine X1 a8 rfl ?_
 simp (disch:=omega) only [Av,X4,List.cons_append,List.nil_append,↓Xo,wD,↓X2,wA,seval,wE]
 refine X1 a9 rfl ?_
 simp (disch:=omega) only [Av,X4,List.cons_append,List.nil_append,↓Xo,wD,↓X2,wA,seval,wE]
 have hSN:Z8 l W H (i+1) (i+1)=Js l W H (i+1):=rfl
 rw [← hSN] at hSl n2
 have hST:A6 l W H (i+1)=(Z8 l W H (i+1) (i+1)).map (rE (aU l) (PG l)):=rfl
 have n3:=HT l W H (i+1) (by omega) (by omega) (by omega)
 have hTl:(A6 l W H (i+1)).length=4+i:=by rw [hST,List.length_map,hSl]; omega
 have q4:aU l≤3:=by omega
 generalize Z8 l W H (i+1) (i+1)=S at *
 have bD:(-4≤(PG l).1∧(PG l).1≤4)∧-4≤(PG l).2∧(PG l).2≤4:=by rw [hD]; omega
 have hAt:DK l=v0.sub (M0 (DL l) (JA (PG l))):=rfl
 have hT:DL l=Ku ((4 - aU l) % 4) KZ:=rfl
 have hPF:Io l (i+1)=⟨0,1,1,(i+1+2:Nat),(i+1:Nat),DL l,DK l,DK l⟩:=rfl
 have hps:=LC l
 rw [hPF] at hR
 have m1:=VR (J4 l W H (i+1)) l 10 (by omega) hl (by omega)
 have m2:=VR (A6 l W H (i+1)) l 20 (by omega) hl (by omega)
 generalize Zo (J4 l W H (i+1)) l 10=A at *
 generalize Zo (A6 l W H (i+1)) l 20=B at *
 generalize J4 l W H (i+1)=FL at *
 generalize DK l=at' at *
 generalize PG l=D at *
 obtain ⟨D1,D2⟩:=D
 rw [Prod.mk.injEq] at hD
 obtain ⟨rfl,rfl⟩:=hD
 generalize aU l=q at *
 generalize DL l=T at *
 generalize Ab.atF l 8 9 - 4=D1 at *
 generalize Ab.atF l 9 9 - 4=D2 at *
 simp only at bD
 generalize hg:rE q (D1,D2)=g at *
 refine Xe (fun k:Nat=>Av l W H (i+1) (.osl 2 1 2 0 (i+1+3)) (.osl 3 i 2 0 (4+i)) .any (I q) (.ref 4 0 0) (I k) .any .any .any [.row 1 ((i+1+3)*2) (Xw KJ 2 (0,0) FL),.row i ((4+i)*2) (Xw KJ 2 (0,0) (FP g S k)),.row 0 2 (Xq [I D1,I D2])])
  (fun k=>k≤4+i) (fun k=>4+i - k) 0 (by omega)
  (Xa rfl (by simp [Av,Xh,X4,I]) (by simp [Xi,Av]) (by simp [Av,FP,I])) ?_
 intro k hk next
 by_cases hk2:k<4+i
 ·have hp:=n2 (S.getD k (0,0)) (JC (by omega))
  have hb:=Gq (S.getD k (0,0)) 7 (by omega) (by omega) q
  have c:=bQ (S.getD k (0,0)) q (by omega) (by omega) (by omega)
  have u0:Xw KJ 2 (0,0) (FP g S k) (k*2)=I (S.getD k (0,0)).1:=by rw [K6 _ _ _ _ _ (by omega),VT g S k (by omega)]; rfl
  have u1:Xw KJ 2 (0,0) (FP g S k) (k*2+1)=I (S.getD k (0,0)).2:=by rw [JR _ _ _ _ _ _ (by omega),VT g S k (by omega)]; rfl
  have hs:=u9 (FP g S k) k (g (S.getD k (0,0))) (by rw [ia g S k (by omega)]; omega)
  rw [ib g S k (by omega)] at hs
  have hgk:g (S.getD k (0,0))=((Z0 q (S.getD k (0,0))).1+D1,(Z0 q (S.getD k (0,0))).2+D2):=by rw [← hg]; rfl
  rw [hgk] at hs
  generalize S.getD k (0,0)=p at *
  generalize Z0 q p=w at *
  refine X0 1000 ?_
  simp (disch:=omega) only [Av,X4,KJ,List.cons_append,List.nil_append,u0,u1,↓Xo,wD,↓X2,wA,seval,wE]
  refine X1 c rfl ?_
  simp (disch:=omega) only [Av,X4,KJ,List.cons_append,List.nil_append,↓Xo,wD,↓X2,wA,seval,wE]
  exact next (k+1) _ (by omega) (by omega) (Xz (m:=5) (Nat.zero_le _) rfl (by simp [Av,Xh,X4,I]) (by simp [Xi,Av]) (by simp [Av,← hs,KJ,I]) (by simp [Av,Xy]) (by simp [Av,Xy]) (by simp [Av,th,uz,Xy]))
 obtain rfl:k=4+i:=by omega
 have hm:FP g S (4+i)=A6 l W H (i+1):=by
  rw [hST]; unfold FP; rw [List.take_of_length_le (by omega),List.drop_eq_nil_of_le (by omega),List.append_nil]
 rw [hm]
 clear next
 generalize A6 l W H (i+1)=ST at *
 refine Run.sub (s':=Av l W H (i+1) (BT FL) (BT ST) .any (I q) (.ref 4 0 0) (I (4+i:Nat)) .any .any .any [.con 1 ((i+1+3)*2) (Xw KJ 2 (0,0) FL),.con i ((4+i)*2) (Xw KJ 2 (0,0) ST),.row 0 2 (Xq [I D1,I D2])]) ?_
  (Sub.trans (Qr 2 rfl) (Sub.trans (SS 9 (M:=(i+1+3)*2) rfl rfl (by omega) (fun h=>by omega)) (Sub.trans (Qr 3 rfl) (Sub.trans (SS 10 (M:=(4+i)*2) rfl rfl (by omega) (fun h=>by omega)) (Xa rfl (by simp [AS.put,Av,Xh,Xg,X4,hFl,hTl,I]) (by simp [AS.put,Xi,Av]) (by simp [AS.put,Av]))))))
 have o1:=Jr 1 1 ⟨by omega,by omega⟩ ⟨by omega,by omega⟩
 have v1:Rat.divInt 1 1=1:=by decide +kernel
 rw [v1] at o1
 have hrem:((4:Int) - q).tmod 4=((4 - q) % 4:Nat):=by rw [Int.tmod_eq_emod_of_nonneg (by omega)]; omega
 refine X0 1000 ?_
 simp (disch:=omega) only [Av,X4,List.cons_append,List.nil_append,↓Xo,wD,↓X2,wA,seval,wE]
 refine X1 m1 rfl ?_
 simp (disch:=omega) only [Av,X4,List.cons_append,List.nil_append,↓Xo,wD,↓X2,wA,seval,wE]
 refine X1 m2 rfl ?_
 simp (disch:=omega) only [Av,X4,Qd,XD,Ja,KI,XM,List.cons_append,List.nil_append,↓Xo,wD,↓X2,wA,seval,wE]
 refine X1 o1 rfl ?_
 simp (disch:=omega) only [X4,Xg,↓Xo,wD,↓X2,wA,seval,wE]
 have wst:WeakL [.bool (sg 1),X9 (Xb (Rat.num 1).natAbs),.bool false,X9 (Xb (qd 1)),.bool false,.sl 0 0 (fun _=>.any) false,.bool false,.sl 0 0 (fun _=>.any) false] (vC KZ):=by
  obtain ⟨w1,w2,w3,w4,w5,w6,w7,w8,_⟩:=Zb
  exact ⟨Weak.rfl' _,Weak.rfl' _,Weak.rfl' _,Weak.rfl' _,w5,w6,w7,w8,trivial⟩
 refine Xe (fun j:Nat=>Av l W H (i+1) .any .any .any (I q) (.ref 4 0 0) .any (.ref 5 0 0) (.ref 6 0 0) (I j) [.con 1 ((i+1+3)*2) (Xw KJ 2 (0,0) FL),.con i ((4+i)*2) (Xw KJ 2 (0,0) ST),.row 0 2 (Xq [I D1,I D2]),.row 0 79 (Xq (XD A ++ (XD B ++ De))),.row 0 8 (Xq (vC (Ku j KZ)))])
  (fun j=>j≤(4 - q) % 4) (fun j=>(4 - q) % 4 - j) 0 (by omega)
  (Sub.trans (SR 6 (vC KZ) rfl rfl wst) (Xa rfl (by simp [Av,Xh,X4,I]) (by simp [Xi,Av]) (by simp [Av,Ja,KI,XM,De,Zd,XD,Xg,Xn,X4,Ku,I]))) ?_
 intro j hj next
 have hvq:vb (Ku j KZ)≤10:=by rw [Hc]; exact DY
 have hqs:Ku (j+1) KZ=Bb (Ku j KZ):=rfl
 by_cases hj2:j<(4 - q) % 4
 ·have nx:=next (j+1)
  rw [hqs] at nx
  generalize Ku j KZ=V at *
  have q1:=Qu V
  have c:=ZD V.y (by unfold rm; omega)
  refine X0 1000 ?_
  simp (disch:=omega) only [Av,X4,vC,hrem,List.cons_append,List.nil_append,↓Xo,wD,↓X2,wA,seval,wE]
  refine X1 c rfl ?_
  simp (disch:=omega) only [X4,↓Xo,wD,↓X2,wA,seval,wE]
  have hV:vC (Bb V)=[.bool (sg (-V.y)),X9 (Xb (-V.y).num.natAbs),.bool false,X9 (Xb (qd (-V.y))),.bool (sg V.x),X9 (Xb V.x.num.natAbs),.bool false,X9 (Xb (qd V.x))]:=rfl
  exact nx _ (by omega) (by omega) (Xa rfl (by simp [Av,Xh,X4,I]) (by simp [Xi,Av]) (by simp [Av,Ja,KI,XM,De,Zd,XD,Xg,Xn,X4,hV,I]))
 obtain rfl:j=(4 - q) % 4:=by omega
 rw [← hT] at hvq ⊢
 clear next
 have c1:=As D1 D2 ⟨by omega,by omega⟩ ⟨by omega,by omega⟩
 have hpv:(⟨(D1:Rat),(D2:Rat)⟩:V2)=JA (D1,D2):=rfl
 rw [hpv] at c1
 have vq:vb (JA (D1,D2))≤3:=by
  have q1:=ZC D1 3 (by omega) (QO ⟨by omega,by omega⟩)
  have q2:=ZC D2 3 (by omega) (QO ⟨by omega,by omega⟩)
  unfold vb JA
  simp only
  omega
 have c2:=Ch T (JA (D1,D2)) (by unfold vm; omega) (by unfold vm; omega)
 have vr:=Dd T (JA (D1,D2))
 have vz:=DZ
 have c3:=JM v0 (M0 T (JA (D1,D2))) (by unfold rm; omega) (by unfold rm; omega)
 rw [← hAt] at c3
 refine X0 1000 ?_
 simp (disch:=omega) only [Av,X4,vC,hrem,List.cons_append,List.nil_append,↓Xo,wD,↓X2,wA,seval,wE]
 refine X1 c1 rfl ?_
 simp (disch:=omega) only [X4,vA,vC,↓Xo,wD,↓X2,wA,seval,wE]
 refine X1 c2 rfl ?_
 simp (disch:=omega) only [X4,vA,vC,↓Xo,wD,↓X2,wA,seval,wE]
 refine Qm c3 ⟨XP (Gy _),Weak.rfl' _,trivial⟩ ?_
 simp (disch:=omega) only [X4,vA,vC,XD,De,Zd,Ja,KI,XM,List.cons_append,List.nil_append,↓Xo,wD,↓X2,wA,seval,wE]
 exact Zg rfl VP rfl rfl rfl sR (hR.trans rfl)
theorem TN (k m:Int) (h:0≤k∧k<m):Jh k m=k:=by
 unfold Jh
 rw [if_neg (by omega),Int.tmod_eq_emod_of_nonneg h.1,Int.emod_eq_of_lt h.1 h.2]
theorem Fz (L:List Int) (j:Nat) (m:Int) (h:j<L.length) (hb:0≤L.getD j 0∧L.getD j 0<m):Ab.atF L (j:Nat) m=L.getD j 0:=by
 unfold Ab.atF
 rw [if_neg (by omega),Int.toNat_natCast,TN _ _ hb]
theorem rj (l:List Int) (W H:Nat) (hW:4≤W∧W≤7) (hH:3≤H∧H≤6):Fy (I1 l W H):=fun x hx=>by
 have b3:=Q1 l 3 ((W:Int) - 1) (by omega)
 have b4:=Q1 l 4 ((W:Int) - 1) (by omega)
 have b7:=Q1 l 7 4 (by omega)
 simp only [I1,List.mem_cons,List.not_mem_nil,or_false] at hx
 rcases hx with rfl | rfl | rfl | rfl | rfl | rfl | rfl | rfl <;> exact ⟨by omega,by omega⟩
theorem iA (l:List Int) (hl:Fy l):∃ (L:List Int) (W H M:Nat),Fy L∧(4≤W∧W≤7)∧(3≤H∧H≤6)∧(1≤M∧M≤3)∧XN (XB (J4 L W H M))∧XN (XB (Js L W H M)) ∧
  Fn Tryz.prog 28 [X9 l] (.agg (Ie (Zo (J4 L W H M) L 10) (Zo (A6 L W H M) L 20) (Io L M))):=by
 have b0:=Q1 l 0 4 (by omega)
 have b1:=Q1 l 1 4 (by omega)
 have b2:=Q1 l 2 3 (by omega)
 obtain ⟨W,hW⟩:∃ W:Nat,(4:Int)+Ab.atF l 0 4=W:=⟨(4+Ab.atF l 0 4).toNat,by omega⟩
 obtain ⟨H,hH⟩:∃ H:Nat,(3:Int)+Ab.atF l 1 4=H:=⟨(3+Ab.atF l 1 4).toNat,by omega⟩
 obtain ⟨M,hM⟩:∃ M:Nat,(1:Int)+Ab.atF l 2 3=M:=⟨(1+Ab.atF l 2 3).toNat,by omega⟩
 by_cases hv:XN (XB (J4 l W H M))∧XN (XB (Js l W H M))
 ·obtain ⟨A,B,F,hf,h⟩:=LB l hl W H M hW hH hM (Zo [] [] 0) (Zo [] [] 0) fv0 (fun h=>absurd hv h)
  rcases h with ⟨_,rfl,rfl,rfl⟩ | ⟨h,_⟩
  ·exact ⟨l,W,H,M,hl,by omega,by omega,by omega,hv.1,hv.2,hf⟩
  ·exact absurd hv h
 have b3:=Q1 l 3 ((W:Int) - 1) (by omega)
 have b4:=Q1 l 4 ((W:Int) - 1) (by omega)
 have b7:=Q1 l 7 4 (by omega)
 have hl2:=rj l W H (by omega) (by omega)
 have a0:Ab.atF (I1 l W H) 0 4=(W:Int) - 4:=Fz _ 0 _ (by simp [I1]) (by show 0≤(W:Int) - 4∧(W:Int) - 4<4; omega)
 have a1:Ab.atF (I1 l W H) 1 4=(H:Int) - 3:=Fz _ 1 _ (by simp [I1]) (by show 0≤(H:Int) - 3∧(H:Int) - 3<4; omega)
 have a2:Ab.atF (I1 l W H) 2 3=0:=Fz _ 2 _ (by simp [I1]) (by show 0≤(0:Int)∧(0:Int)<3; omega)
 have a3:Ab.atF (I1 l W H) 3 ((W:Int) - 1)=Ab.atF l 3 ((W:Int) - 1):=Fz _ 3 _ (by simp [I1]) b3
 have a4:Ab.atF (I1 l W H) 4 ((W:Int) - 1)=Ab.atF l 4 ((W:Int) - 1):=Fz _ 4 _ (by simp [I1]) b4
 have c0:QH (I1 l W H) W H 1 0=(1+Ab.atF l 3 ((W:Int) - 1),0):=by
  unfold QH; rw [if_neg (by omega)]; exact congrArg (fun z:Int=>((1:Int)+z,(0:Int))) a3
 have c1:QH (I1 l W H) W H 1 1=(1+Ab.atF l 4 ((W:Int) - 1),(H:Int)):=by
  unfold QH; rw [if_pos rfl]; exact congrArg (fun z:Int=>((1:Int)+z,(H:Int))) a4
 have p1:XN (XB (J4 (I1 l W H) W H 1)):=by
  have e:J4 (I1 l W H) W H 1=iO (1+Ab.atF l 3 ((W:Int) - 1)) (1+Ab.atF l 4 ((W:Int) - 1)) H:=by
   show (0,0) :: [QH (I1 l W H) W H 1 0,QH (I1 l W H) W H 1 1] ++ [(0,(H:Int))]=_
   rw [c0,c1]; rfl
  rw [e]
  exact iP _ _ _ (by omega) (by omega) (by omega)
 have p2:XN (XB (Js (I1 l W H) W H 1)):=by
  have e:Js (I1 l W H) W H 1=iQ W (1+Ab.atF l 3 ((W:Int) - 1)) (1+Ab.atF l 4 ((W:Int) - 1)) H:=by
   show [QH (I1 l W H) W H 1 0,((W:Int),0),((W:Int),(H:Int))] ++ [QH (I1 l W H) W H 1 1]=_
   rw [c0,c1]; rfl
  rw [e]
  exact iR _ _ _ _ (by omega) (by omega) (by omega) (by omega)
 obtain ⟨A,B,F,hf,h⟩:=LB (I1 l W H) hl2 W H 1 (by rw [a0]; omega) (by rw [a1]; omega) (by rw [a2]; rfl) (Zo [] [] 0) (Zo [] [] 0) fv0 (fun h=>absurd ⟨p1,p2⟩ h)
 rcases h with ⟨_,rfl,rfl,rfl⟩ | ⟨h,_⟩
 rotate_left
 ·exact absurd ⟨p1,p2⟩ h
 obtain ⟨A,B,F,hf2,h⟩:=LB l hl W H M hW hH hM _ _ _ (fun _=>hf)
 rcases h with ⟨h,_⟩ | ⟨_,rfl,rfl,rfl⟩
 ·exact absurd h hv
 ·exact ⟨I1 l W H,W,H,1,hl2,by omega,by omega,by omega,p1,p2,hf2⟩
theorem nC (l:List Int) (hl:Fy l):∃ (A B:PV) (F:FV) (ta tb:Rat),Fn Tryz.prog 28 [X9 l] (.agg (Ie A B F))∧GP A ta∧GP B tb∧A.small∧B.small∧qb ta≤3∧qb tb≤3∧vb F.turn≤10∧vb F.lo≤100∧vb F.hi≤100:=by
 obtain ⟨L,W,H,M,hL,hW,hH,hM,p1,p2,hf⟩:=iA l hl
 have g1:=VS (J4 L W H M) L 10 (Lg L W H M hW (by omega) (by omega)) p1
 have g2:=VS (A6 L W H M) L 20 (HT L W H M hW (by omega) (by omega)) (nF _ _ _ p2)
 have hs:=LC L
 exact ⟨_,_,_,_,_,hf,g1.1,g2.1,g1.2.1,g2.2.1,g1.2.2,g2.2.2,hs.1,hs.2,hs.2⟩
def U4 (t u:V2):Int:=if XX t.x u.x≠0 then XX t.x u.x else XX t.y u.y
theorem ft (t u:V2):U4 t u<0↔Ak t u:=by
 have h1:=Kg t.x u.x; have h2:=Kg t.y u.y
 have h3:=iM t.x u.x
 unfold U4 Ak
 by_cases h:XX t.x u.x=0
 ·rw [if_neg (by simp [h])]
  have e:=h3.1 h
  rw [h2]
  constructor
  ·intro hh; exact .inr ⟨e,hh⟩
  ·rintro (hh | hh)
   ·rw [e] at hh; exact absurd hh (Rat.lt_irrefl)
   ·exact hh.2
 ·rw [if_pos h,h1]
  constructor
  ·intro hh; exact .inl hh
  ·rintro (hh | hh)
   ·exact hh
   ·exact absurd (h3.2 hh.1) h
theorem u7 (a b:Int):Fn Tryz.prog 200 [.sl 2 2 (Xq [I a,I b]) false] (I (if a≠0 then a else b)):=by
 refine Fn.intro (fn:=Tryz.f200) Tryz.call200 Tryz.func200 rfl mixed 6 [6,7,8] [] [] (by kernel_rfl) (Nat.le_of_ble_eq_true rfl) (by
  intro x hx
  rw [List.mem_singleton.1 hx]
  exact J0 fun j hj=>Xd (l:=[I a,I b]) (by simp [X8]) _) (X0 1000 ?_)
 simp (disch:=omega) only [AS.start,↓Xo,wD,↓X2,wA,seval,wE]
 refine H8 ?_
 refine X0 1000 ?_
 by_cases h:a=0
 rotate_left
 ·simp (disch:=omega) only [eq_false h,Int.reduceAdd,↓Xo,wD,↓X2,wA,seval,wE]
  exact Xs (v:=I a) rfl rfl (X8 _) (by rw [if_pos h])
 simp (disch:=omega) only [eq_true h,Int.reduceAdd,↓Xo,wD,↓X2,wA,seval,wE]
 refine Fi ?_
 refine X0 1000 ?_
 by_cases h2:b=0
 rotate_left
 ·simp (disch:=omega) only [eq_false h2,Int.reduceAdd,↓Xo,wD,↓X2,wA,seval,wE]
  exact Xs (v:=I b) rfl rfl (X8 _) (by rw [if_neg (by simp [h])])
 simp (disch:=omega) only [eq_true h2,Int.reduceAdd,↓Xo,wD,↓X2,wA,seval,wE]
 refine Fi ?_
 refine X0 1000 ?_
 simp (disch:=omega) only [Int.reduceAdd,↓Xo,wD,↓X2,wA,seval,wE]
 exact Xs (v:=I 0) rfl rfl (X8 _) (by rw [if_neg (by simp [h]),h2])
theorem Rc (t u:V2) (ht:vb t≤vm) (hu:vb u≤vm):Fn Tryz.prog 135 [vA t,vA u] (I (U4 t u)):=by
 have q1:=QB t; have q2:=Qu t; have q3:=QB u; have q4:=Qu u
 have c1:=JH t.x u.x (by unfold rm; unfold vm at *; omega) (by unfold rm; unfold vm at *; omega)
 have c2:=JH t.y u.y (by unfold rm; unfold vm at *; omega) (by unfold rm; unfold vm at *; omega)
 have c3:=u7 (XX t.x u.x) (XX t.y u.y)
 have hc:U4 t u=if XX t.x u.x≠0 then XX t.x u.x else XX t.y u.y:=rfl
 rw [← hc] at c3
 generalize U4 t u=R at *
 refine Fq Tryz.call135 Tryz.func135 5 [] [1,20000002,20000003] [] (by simp [Xm]) (X0 1000 ?_)
 simp (disch:=omega) only [AS.start,vA,vC,↓Xo,wD,↓X2,wA,seval,wE]
 refine X1 c1 rfl ?_
 simp (disch:=omega) only [↓Xo,wD,↓X2,wA,seval,wE]
 refine X1 c2 rfl ?_
 simp (disch:=omega) only [↓Xo,wD,↓X2,wA,seval,wE]
 refine X1 c3 rfl ?_
 simp (disch:=omega) only [↓Xo,wD,↓X2,wA,seval,wE]
 exact Xs rfl rfl (X8 _) rfl
def bK (L:List V2) (j:Nat):List V2:=(L.set (j+1) (L.getD j v0)).set j (L.getD (j+1) v0)
def BV:List V2→Nat→List V2
 | L,0=>L
 | L,j+1=>if Ak (L.getD (j+1) v0) (L.getD j v0) then BV (bK L j) j else L
def B6 (L:List V2):Nat→List V2
 | 0=>L
 | k+1=>BV (B6 L k) (k+1)
theorem P1 (L:List V2) (j:Nat):(bK L j).length=L.length:=by simp [bK]
theorem Rw:∀ (j:Nat) (L:List V2),(BV L j).length=L.length
 | 0,_=>rfl
 | j+1,L=>by
  unfold BV
  split
  ·rw [Rw j,P1]
  ·rfl
theorem BO (L:List V2):∀ k,(B6 L k).length=L.length
 | 0=>rfl
 | k+1=>by show (BV (B6 L k) (k+1)).length=_; rw [Rw,BO L k]
theorem Wp {L:List V2} {j:Nat} (h:j+1<L.length) (x:V2) (hx:x∈bK L j):x∈L:=by
 unfold bK at hx
 rcases List.mem_or_eq_of_mem_set hx with hx | rfl
 ·rcases List.mem_or_eq_of_mem_set hx with hx | rfl
  ·exact hx
  ·exact JC (by omega)
 ·exact JC h
theorem Rx:∀ (j:Nat) (L:List V2),j<L.length→∀ x∈BV L j,x∈L
 | 0,_,_,x,h=>h
 | j+1,L,hj,x,h=>by
  unfold BV at h
  split at h
  ·exact Wp hj x (Rx j (bK L j) (by rw [P1]; omega) x h)
  ·exact h
theorem M7 (L:List V2):∀ k,k<L.length→∀ x∈B6 L k,x∈L
 | 0,_,x,h=>h
 | k+1,hk,x,h=>M7 L k (by omega) x (Rx (k+1) (B6 L k) (by rw [BO]; exact hk) x h)
theorem sD (l:List V2) (k:Nat) (x:V2) (hk:k<l.length):I9 (Xw vC 8 v0 l) (k*8) (vC x)=Xw vC 8 v0 (l.set k x):=by
 funext j
 rw [SZ]
 have e:(l.set k x).getD k v0=x:=by rw [List.getD_eq_getElem?_getD,List.getElem?_set_self hk]; rfl
 have hl:(vC x).length=8:=rfl
 unfold Xw
 by_cases h:k*8≤j∧j<k*8+(vC x).length
 ·rw [if_pos h]
  rw [hl] at h
  rw [show j / 8=k by omega,e,show j % 8=j - k*8 by omega]
 ·rw [if_neg h]
  rw [hl] at h
  have:(l.set k x).getD (j / 8) v0=l.getD (j / 8) v0:=by rw [List.getD_eq_getElem?_getD,List.getElem?_set_ne (by omega),List.getD_eq_getElem?_getD]
  rw [this]
theorem pD {P:Program} {fn:Func} {str hcs:List Nat} {b:Nat} {H:List AO} {s:AS} (hr:fn.results=#[]) (hH:s.h=H):RetE (GN P fn str hcs b (.tup []) H) s :=
 ⟨.tup [],by show KT P fn s=_; simp [KT,hr,QZ,A3],rfl,hH⟩
theorem ap (o0 o1 o2 o3 o4 o5 o6 o7:AO) (v:Nat) (L:List V2) (hL:∀ x∈L,vb x≤vm) (hn:L.length<1000) :
  HCall Tryz.prog 233 [.osl 8 v 8 0 L.length,I 0,I L.length,.fn 135 []] [o0,o1,o2,o3,o4,o5,o6,o7,.row v (L.length*8) (Xw vC 8 v0 L)] (.tup []) [o0,o1,o2,o3,o4,o5,o6,o7,.row v (L.length*8) (Xw vC 8 v0 (B6 L (L.length - 1)))]:=by
 refine HCall.intro (fn:=Tryz.f233) Tryz.call233 Tryz.func233 rfl mixed 10 [] [4,5008,5013,6,7009,7013] [] (by kernel_rfl) (Nat.le_of_ble_eq_true rfl) (X0 1000 ?_)
 simp (disch:=omega) only [AS.start,↓Xo,wD,↓X2,wA,seval,wE]
 refine Xe (fun k:Nat=>⟨10,[],[.osl 8 v 8 0 L.length,I 0,I L.length,.fn 135 [],.any,.any,.any,.any,I (k+1:Nat),.any],[],[o0,o1,o2,o3,o4,o5,o6,o7,.row v (L.length*8) (Xw vC 8 v0 (B6 L k))]⟩) (fun k=>k≤L.length - 1) (fun k=>L.length - k) 0 (by omega)
  (Xa rfl (by simp [Xh,I]) (by simp [Xi]) rfl) ?_
 intro k hk next
 by_cases hk2:k+1<L.length
 rotate_left
 ·obtain rfl:k=L.length - 1:=by omega
  refine X0 1000 ?_
  simp (disch:=omega) only [↓Xo,wD,↓X2,wA,seval,wE]
  exact pD rfl rfl
 have hml:=M7 L k (by omega)
 have hll:=BO L k
 have nx:=next (k+1)
 rw [show B6 L (k+1)=BV (B6 L k) (k+1) from rfl] at nx
 generalize B6 L k=M at *
 refine X0 1000 ?_
 simp (disch:=omega) only [↓Xo,wD,↓X2,wA,seval,wE]
 refine Xe (fun p:Nat×List V2=>⟨10,[],[.osl 8 v 8 0 L.length,I 0,I L.length,.fn 135 [],.any,.any,.any,.any,I (k+1:Nat),I p.1],[],[o0,o1,o2,o3,o4,o5,o6,o7,.row v (L.length*8) (Xw vC 8 v0 p.2)]⟩) (fun p=>p.1≤k+1∧p.2.length=L.length∧(∀ x∈p.2,vb x≤vm)∧BV p.2 p.1=BV M (k+1)) (fun p=>p.1) (k+1,M) ⟨by simp,hll,fun x hx=>hL x (hml x hx),rfl⟩
  (Xa rfl (by simp [Xh,I]) (by simp [Xi]) rfl) ?_
 rintro ⟨j,C⟩ ⟨h1,h2,h3,h4⟩ nextj
 replace h1:j≤k+1:=h1
 replace h2:C.length=L.length:=h2
 replace h3:∀ x∈C,vb x≤vm:=h3
 replace h4:BV C j=BV M (k+1):=h4
 match j,h1,h4,nextj with
 | 0,h1,h4,nextj =>
  refine X0 1000 ?_
  simp (disch:=omega) only [↓Xo,wD,↓X2,wA,seval,wE]
  have h5:C=BV M (k+1):=h4
  rw [← h5] at nx
  exact nx _ (by omega) (by omega) (Xa rfl (by simp [Xh,I]) (by simp [Xi]) rfl)
 | j+1,h1,h4,nextj =>
  have c:=Rc (C.getD (j+1) v0) (C.getD j v0) (h3 _ (JC (by omega))) (h3 _ (JC (by omega)))
  have a1:=JR vC 8 v0 C (j+1)
  have a2:=K6 vC 8 v0 C (j+1) (by omega)
  have b1:=JR vC 8 v0 C j
  have b2:=K6 vC 8 v0 C j (by omega)
  have hj1:(((j+1:Nat):Int) - 1).toNat=j:=by omega
  have hneg:=ft (C.getD (j+1) v0) (C.getD j v0)
  by_cases hb:Ak (C.getD (j+1) v0) (C.getD j v0)
  rotate_left
  ·have hlt:=mt hneg.1 hb
   have h5:C=BV M (k+1):=by rw [← h4]; unfold BV; rw [if_neg hb]
   rw [← h5] at nx
   clear h4 h5 hb hneg nextj
   generalize C.getD (j+1) v0=x at *
   generalize C.getD j v0=y at *
   generalize U4 x y=d at *
   refine X0 1000 ?_
   simp (disch:=omega) only [hj1,a1,a2,b1,b2,vC,↓Xo,wD,↓X2,wA,seval,wE]
   refine X1 c rfl ?_
   simp (disch:=omega) only [eq_false hlt,↓Xo,wD,↓X2,wA,seval,wE]
   exact nx _ (by omega) (by omega) (Xa rfl (by simp [Xh,I]) (by simp [Xi]) rfl)
  have hlt:=hneg.2 hb
  have e1:=sD C (j+1) (C.getD j v0) (by omega)
  have e2:=sD (C.set (j+1) (C.getD j v0)) j (C.getD (j+1) v0) (by rw [List.length_set]; omega)
  have hsw:(C.set (j+1) (C.getD j v0)).set j (C.getD (j+1) v0)=bK C j:=rfl
  rw [hsw,← e1] at e2
  have h5:BV (bK C j) j=BV M (k+1):=by rw [← h4]; exact (if_pos hb).symm
  have nx2:=nextj (j,bK C j)
  have h6:∀ x∈bK C j,vb x≤vm:=fun x hx=>h3 x (Wp (by omega) x hx)
  have h7:=P1 C j
  generalize bK C j=D at *
  clear h4 hb hneg nextj hsw e1
  generalize C.getD (j+1) v0=x at *
  generalize C.getD j v0=y at *
  generalize U4 x y=d at *
  refine X0 1000 ?_
  simp (disch:=omega) only [hj1,a1,a2,b1,b2,vC,↓Xo,wD,↓X2,wA,seval,wE]
  refine X1 c rfl ?_
  simp (disch:=omega) only [hj1,a1,a2,b1,b2,vC,eq_true hlt,↓Xo,wD,↓X2,wA,seval,wE]
  exact nx2 _ ⟨by show j≤k+1; omega,by show D.length=_; omega,h6,h5⟩ (by show j<j+1; omega) (Xa rfl (by simp [Xh,I]) (by simp [Xi]) (by rw [← e2]; rfl))
end
end Go.Ab.N
namespace Go.Ab.N
open Go Go.RowKit Go.Proofs
open Go.Shelf
noncomputable section
set_option maxRecDepth 10000
set_option maxHeartbeats 4000000
open Classical
def vk:Go.Shelf.Ren:=⟨fun k=>if k=125 then 199 else if k=128 then 241 else 242,fun t=>if t=46 then 187 else if t=51 then 218 else if t=53 then 197 else t,fun x=>x⟩
theorem tU:Lays.n125 Tryz.prog vk where
 mixed:=mixed
 f125:=Tryz.func199.trans (congrArg some rfl)
 f128:=Tryz.func241.trans (congrArg some rfl)
 f129:=Tryz.func242.trans (congrArg some rfl)
 t3:=Tryz.underlying3
 a3:=Tryz.isAgg3
 z3:=Tryz.sizeOf3
 v3:=Tryz.zeroValue3
 t4:=Tryz.underlying4
 a4:=Tryz.isAgg4
 z4:=Tryz.sizeOf4
 v4:=Tryz.zeroValue4
 t5:=Tryz.underlying5
 a5:=Tryz.isAgg5
 z5:=Tryz.sizeOf5
 v5:=Tryz.zeroValue5
 t9:=Tryz.underlying9
 a9:=Tryz.isAgg9
 z9:=Tryz.sizeOf9
 v9:=Tryz.zeroValue9
 t46:=Tryz.underlying187
 a46:=Tryz.isAgg187
 z46:=Tryz.sizeOf187
 v46:=Tryz.zeroValue187
 t51:=Tryz.underlying218
 a51:=Tryz.isAgg218
 z51:=Tryz.sizeOf218
 v51:=Tryz.zeroValue218
 t53:=Tryz.underlying197
 a53:=Tryz.isAgg197
 z53:=Tryz.sizeOf197
 v53:=Tryz.zeroValue197
theorem rB (n:Nat) (h:n<1000000):Fn Tryz.prog 199 [.int .u64 n] (I (Lib.bitLen n)):=by
 refine ⟨⟨Tryz.call199,?_⟩,fun a ha=>by rw [List.mem_singleton.1 ha]; exact Jp _ _⟩
 rintro w S vs hS ⟨hv1,hv2⟩
 have hx:=hv2 0 (by simp)
 have h3:vs.size=1:=hv1
 have e1:vs=#[vs.getD 0 undef]:=by
  apply Array.ext
  ·simp [h3]
  ·intro j g1 g2
   match j,g1 with
   | 0,_=>simp [Array.getD,h3]
   | j+1,g=>omega
 rw [e1]
 generalize vs.getD 0 undef=x at *
 replace hx:Rep (.bare w S) x (.int .u64 n):=hx
 cases hx
 have key:=Any.bits_Len tU (n:Int) w (by omega) (by omega)
 refine key.mono ?_
 rintro e w' ⟨rfl,rfl⟩
 rw [Int.toNat_natCast]
 exact ⟨_,S,rfl,.int _ _,hS,Ext.refl _⟩
theorem rV {P:Program} {fn:Func} {str hcs:List Nat} {b:Nat} {H:List AO} {s:AS} (hr:fn.results=#[]) (hH:s.h=H):RetOk (GN P fn str hcs b (.tup []) H) s :=
 ⟨.tup [],by show KT P fn s=_; simp [KT,hr,QZ,A3],rfl,hH⟩
theorem ue {o0 o1 o2 o3 o4 o5 o6 o7 o8:AO} (h:∀ o∈[o0,o1,o2,o3,o4,o5,o6,o7],o≠.unborn) (h5:o8≠.unborn) (id:Nat):[o0,o1,o2,o3,o4,o5,o6,o7,o8][id]?≠some .unborn:=by
 intro hh
 have:=List.mem_of_getElem? hh
 rw [show [o0,o1,o2,o3,o4,o5,o6,o7,o8]=[o0,o1,o2,o3,o4,o5,o6,o7] ++ [o8] from rfl,List.mem_append,List.mem_singleton] at this
 rcases this with g | g
 ·exact h _ g rfl
 ·exact h5 g.symm
theorem rM (o0 o1 o2 o3 o4 o5 o6 o7:AO) (hu:∀ o∈[o0,o1,o2,o3,o4,o5,o6,o7],o≠.unborn) (v lim:Nat) (L:List V2) (hL:∀ x∈L,vb x≤vm) (hn:L.length≤12) :
  HCall Tryz.prog 198 [.osl 8 v 8 0 L.length,I 0,I L.length,I lim,.fn 135 []] [o0,o1,o2,o3,o4,o5,o6,o7,.row v (L.length*8) (Xw vC 8 v0 L)] (.tup []) [o0,o1,o2,o3,o4,o5,o6,o7,.row v (L.length*8) (Xw vC 8 v0 (B6 L (L.length - 1)))]:=by
 have c:=ap o0 o1 o2 o3 o4 o5 o6 o7 v L hL (by omega)
 refine HCall.intro (fn:=Tryz.f198) Tryz.call198 Tryz.func198 rfl mixed 21 [] [] [4] (by kernel_rfl) (Nat.le_of_ble_eq_true rfl) (X0 1000 ?_)
 simp (disch:=omega) only [AS.start,↓Xo,wD,↓X2,wA,seval,wE]
 refine H8 ?_
 refine X0 1000 ?_
 simp (disch:=omega) only [↓Xo,wD,↓X2,wA,seval,wE]
 refine Z4 rfl c (Z5 (id:=8) (o:=.row v (L.length*8) (Xw vC 8 v0 L)) rfl (by simp) (by simp)) (ue hu (by simp)) (XS _) ?_
 simp (disch:=omega) only [↓Xo,wD,↓X2,wA,seval,wE]
 exact rV rfl rfl
theorem od (o0 o1 o2 o3 o4 o5 o6 o7:AO) (hu:∀ o∈[o0,o1,o2,o3,o4,o5,o6,o7],o≠.unborn) (v:Nat) (L:List V2) (hL:∀ x∈L,vb x≤vm) (hn:L.length≤12) :
  HCall Tryz.prog 134 [.osl 8 v 8 0 L.length,.fn 135 []] [o0,o1,o2,o3,o4,o5,o6,o7,.row v (L.length*8) (Xw vC 8 v0 L)] (.tup []) [o0,o1,o2,o3,o4,o5,o6,o7,.row v (L.length*8) (Xw vC 8 v0 (B6 L (L.length - 1)))]:=by
 have c:=rM o0 o1 o2 o3 o4 o5 o6 o7 hu v (Lib.bitLen L.length) L hL hn
 have cl:=rB L.length (by omega)
 have hw:IntKind.u64.wrap (L.length:Int)=L.length:=by rw [IntKind.wrap_u64]; omega
 generalize Lib.bitLen L.length=lim at *
 refine HCall.intro (fn:=Tryz.f134) Tryz.call134 Tryz.func134 rfl mixed 5 [] [] [1] (by kernel_rfl) (Nat.le_of_ble_eq_true rfl) (X0 1000 ?_)
 simp (disch:=omega) only [AS.start,hw,↓Xo,wD,↓X2,wA,seval,wE]
 refine X1 cl rfl ?_
 simp (disch:=omega) only [↓Xo,wD,↓X2,wA,seval,wE]
 refine Z4 rfl c (Z5 (id:=8) (o:=.row v (L.length*8) (Xw vC 8 v0 L)) rfl (by simp) (by simp)) (ue hu (by simp)) (XS _) ?_
 simp (disch:=omega) only [↓Xo,wD,↓X2,wA,seval,wE]
 exact pD rfl rfl
end
end Go.Ab.N
namespace Go.Ab.N
open Go Go.RowKit Go.Proofs
noncomputable section
set_option maxRecDepth 10000
set_option maxHeartbeats 4000000
open Classical
theorem LV {P:Program} {fn:Func} {str hcs:List Nat} {b:Nat} {r:AV} {H:List AO} {s:AS} {t:Nat} (hr:fn.results=#[.tmp t]) (h1:s.get t=r) (hH:s.h=H):RetOk (GN P fn str hcs b r H) s :=
 ⟨r,by show KT P fn s=_; simp [KT,hr,QZ,Qp,A3,h1],rfl,hH⟩
theorem Pu (o0 o1 o2 o3 o4:AO) (B0:∀ m,5≤m→XI m o0) (B1:∀ m,5≤m→XI m o1) (B2:∀ m,5≤m→XI m o2) (B3:∀ m,5≤m→XI m o3) (B4:∀ m,5≤m→XI m o4) (a b:PV) (f:FV) (hf:Db a.rim.length b.rim.length f) (ha:a.even) (hb:b.even) :
  HCall Tryz.prog 133 [Qd a,Qd b,Ke f] [o0,o1,o2,o3,o4] (.osl 8 (Qs a b f f.M.toNat).length 8 0 (Qs a b f f.M.toNat).length) [o0,o1,o2,o3,o4,.dead,.dead,.dead,.row (Qs a b f f.M.toNat).length ((Qs a b f f.M.toNat).length*8) (Xw vC 8 v0 (Qs a b f f.M.toNat))]:=by
 have ce:=Ld a b f hf ha.rim hb.rim
 obtain ⟨⟨s1,s2⟩,⟨s3,s4⟩,s5,s6,s7⟩:=hf
 obtain ⟨N,hN⟩:∃ N:Nat,f.M=N:=⟨f.M.toNat,by omega⟩
 have la:=ha.rim; have lb:=hb.rim
 have hNt:f.M.toNat=N:=by rw [hN]; rfl
 rw [hNt]
 obtain ⟨L,hL⟩:∃ L,L=F3 a.rim.length b.rim.length f:=⟨_,rfl⟩
 have hlen:L.length=N:=by rw [hL,CQ,hN]; rfl
 have hat:∀ k,k<N→L.getD k (0,0)=((xK a.rim.length f k:Int),(yK b.rim.length f k:Int)):=fun k hk=>by rw [hL]; exact Gh _ _ _ _ (by omega)
 rw [← hL] at ce
 clear hL
 have ba:XI 9 (.row 0 25 (Xq (XD a)))=True:=eq_true (XG (XF a))
 have bb:XI 9 (.row 0 25 (Xq (XD b)))=True:=eq_true (XG (XF b))
 have bf:XI 9 (.row 0 29 (Xq (Qc f)))=True:=eq_true (XG (Qj f))
 have bL:Jq 9 (BT L)=True:=eq_true (X6 (Qw _))
 have hvc:∀ a:V2,∀ x∈vC a,Settled x:=fun a=>by simp [vC,X7,X3]
 have br:∀ i l n,XI 9 (.row i n (Xw vC 8 v0 l))=True:=fun i l n=>eq_true fun j _=>X6 (Xd (hvc _) _)
 have q0:XI 9 o0=True:=eq_true (B0 9 (by omega))
 have q1:XI 9 o1=True:=eq_true (B1 9 (by omega))
 have q2:XI 9 o2=True:=eq_true (B2 9 (by omega))
 have q3:XI 9 o3=True:=eq_true (B3 9 (by omega))
 have q4:XI 9 o4=True:=eq_true (B4 9 (by omega))
 refine HCall.intro (fn:=Tryz.f133) Tryz.call133 Tryz.func133 rfl mixed 12 [15,16,17] [] [] (by kernel_rfl) (Nat.le_of_ble_eq_true rfl) (X0 1000 ?_)
 simp only [AS.start,Qd,XD,Ke,Qc,↓X2,wA,seval,wE]
 refine X1 ce rfl ?_
 simp only [Xg,hlen,↓X2,wA,seval,wE]
 refine Xe (fun k:Nat=>⟨12,[15,16,17],[.any,.any,.any,.ref 5 0 0,.ref 6 0 0,.ref 7 0 0,.any,.osl 8 (Qs a b f k).length 8 0 (Qs a b f k).length,.any,.any,.any,.any],[(15,BT L),(16,I N),(17,I k)],[o0,o1,o2,o3,o4,.row 0 25 (Xq (XD a)),.row 0 25 (Xq (XD b)),.row 0 29 (Xq (Qc f)),.row (Qs a b f k).length ((Qs a b f k).length*8) (Xw vC 8 v0 (Qs a b f k))]⟩) (fun k=>k≤N) (fun k=>N - k) 0 (by omega)
  (Sub.trans (Qg 7 8 (Xw vC 8 v0 []) rfl) (Xa rfl (by simp [AS.put,Qs,Xh,I]) (by simp [AS.put,Xi,Xv,Xg,hlen,I]) (by simp [AS.put,Qs,XD,Qc,Xg,Xn,X4,I]))) ?_
 intro k hk next
 have w1:=wj k (by omega)
 have hln:=Dq a b f k
 by_cases hk2:k<N
 rotate_left
 ·obtain rfl:k=N:=by omega
  refine Run.sub (s':=⟨12,[15,16,17],[.any,.any,.any,.any,.any,.any,.any,.osl 8 (Qs a b f k).length 8 0 (Qs a b f k).length,.any,.any,.any,.any],[(15,BT L),(16,I k),(17,I k)],[o0,o1,o2,o3,o4,.dead,.dead,.dead,.row (Qs a b f k).length ((Qs a b f k).length*8) (Xw vC 8 v0 (Qs a b f k))]⟩) ?_
   (Sub.trans (Mc 5 rfl (by simp [AO.info])) (Sub.trans (Mc 6 rfl (by simp [AO.info])) (Sub.trans (Mc 7 rfl (by simp [AO.info])) (Xa rfl (by simp [Xh,I]) (by simp [Xi,Xv,I]) (by simp)))))
  refine X0 1000 ?_
  simp only [Int.lt_irrefl,Nat.lt_irrefl,↓X2,wA,seval,wE]
  exact LV rfl rfl rfl
 have nx:=next (k+1)
 have f1:((k:Int)<N)=True:=eq_true (by omega)
 have f2:(k<N)=True:=eq_true hk2
 have f3:(k*2+2≤N*2)=True:=eq_true (by omega)
 have v1:=aQ L k
 rw [hat k hk2] at v1
 have n2:((2:Nat):Int)=2:=rfl
 have t1:(1:Int).toNat=1:=rfl
 have ca:=LD a b (xK a.rim.length f k) (yK b.rim.length f k) la lb ha.near hb.near
 rw [show J7 a.rim b.rim (xK a.rim.length f k) (yK b.rim.length f k)=Ex a b f k from rfl] at ca
 have hs:Qs a b f (k+1)=if (Ex a b f k).2=true then Qs a b f k ++ [(Ex a b f k).1] else Qs a b f k:=rfl
 generalize Ex a b f k=X at *
 obtain ⟨t,ok⟩:=X
 refine X0 1000 ?_
 simp only [XD,Qc,Xg,Xn,X4,hlen,w1,f1,f2,f3,v1,n2,t1,Int.toNat_zero,Int.reduceLT,Int.reduceLE,Int.toNat_natCast,↓X2,wA,seval,wE]
 refine X1 ca rfl ?_
 cases ok with
 | false =>
  rw [if_neg (show ¬ ((t,false).2=true) from Bool.false_ne_true)] at hs
  simp only [hs] at nx
  simp only [w1,↓X2,wA,seval,wE]
  exact nx _ (by omega) (by omega) (Xz (m:=9) (show 5≤9 by omega) rfl (by simp [Xh,I]) (by simp [Xi,Xv,Xg,hlen,I]) (by simp [XD,Qc,Xg,Xn,X4,I]) (by simp [Xy]) (by simp [Xy,bL]) (by simp [q0,q1,q2,q3,q4,ba,bb,bf,br]))
 | true =>
  rw [if_pos rfl] at hs
  have hlen2:(Qs a b f (k+1)).length=(Qs a b f k).length+1:=by rw [hs]; simp
  have hap:=Q0 vC 8 v0 (Qs a b f k) t (by omega)
  rw [← hs] at hap
  simp only [hlen2] at nx
  simp only [w1,↓X2,wA,seval,wE]
  exact ⟨⟨BQ t,by omega,by omega⟩,nx _ (by omega) (by omega) (Xz (m:=9) (show 5≤9 by omega) rfl (by simp [Xh,I]) (by simp [Xi,Xv,Xg,hlen,I]) (by rw [← hap]; simp [XD,Qc,Xg,Xn,X4,I,vC]) (by simp [Xy]) (by simp [Xy,bL]) (by simp [q0,q1,q2,q3,q4,ba,bb,bf,br]))⟩
theorem Cn {a b c:V2} (h1:Ak a b) (h2:Ak b c):Ak a c:=by unfold Ak at *; grind
theorem Ic (a:V2):¬ Ak a a:=by unfold Ak; grind
theorem GH {a b:V2} (h:¬ Ak a b) (hn:a≠b):Ak b a:=by
 have:¬ (a.x=b.x∧a.y=b.y):=fun hh=>hn (V2.ext'.2 hh)
 unfold Ak at *
 grind
theorem Rz (t:V2):∀ l,l.Pairwise Ak→t∉l→(MN t l).Pairwise Ak
 | [],_,_=>by simp [MN]
 | x :: l,hs,hn=>by
  rw [List.pairwise_cons] at hs
  rw [List.mem_cons,not_or] at hn
  have ih:=Rz t l hs.2 hn.2
  unfold MN
  split
  ·rename_i hb
   rw [List.pairwise_cons,List.pairwise_cons]
   refine ⟨fun y hy=>?_,hs⟩
   rcases List.mem_cons.1 hy with rfl | hy
   ·exact hb
   ·exact Cn hb (hs.1 y hy)
  ·rename_i hb
   rw [List.pairwise_cons]
   refine ⟨fun y hy=>?_,ih⟩
   rcases (Lq t y l).1 hy with rfl | hy
   ·exact GH hb hn.1
   ·exact hs.1 y hy
theorem Mf (a b:PV) (f:FV):∀ n,(Z1 a b f n).Pairwise Ak
 | 0=>List.Pairwise.nil
 | n+1=>by
  have ih:=Mf a b f n
  unfold Z1
  split
  ·unfold dK
   split
   ·exact ih
   ·rename_i h
    exact Rz _ _ ih h
  ·exact ih
theorem Wl:∀ (l m:List V2),l.Pairwise Ak→m.Pairwise Ak→(∀ x,x∈l↔x∈m)→l=m
 | [],[],_,_,_=>rfl
 | [],b :: m,_,_,h=>absurd ((h b).2 (List.mem_cons_self ..)) (List.not_mem_nil)
 | a :: l,[],_,_,h=>absurd ((h a).1 (List.mem_cons_self ..)) (List.not_mem_nil)
 | a :: l,b :: m,h1,h2,h=>by
  rw [List.pairwise_cons] at h1 h2
  have e:a=b:=by
   rcases List.mem_cons.1 ((h a).1 (List.mem_cons_self ..)) with e | ha
   ·exact e
   rcases List.mem_cons.1 ((h b).2 (List.mem_cons_self ..)) with e | hb
   ·exact e.symm
   ·exact absurd (Cn (h1.1 b hb) (h2.1 a ha)) (Ic a)
  subst e
  refine congrArg (a :: ·) (Wl l m h1.2 h2.2 fun x=>⟨fun hx=>?_,fun hx=>?_⟩)
  ·rcases List.mem_cons.1 ((h x).1 (List.mem_cons_of_mem _ hx)) with rfl | hy
   ·exact absurd (h1.1 x hx) (Ic x)
   ·exact hy
  ·rcases List.mem_cons.1 ((h x).2 (List.mem_cons_of_mem _ hx)) with rfl | hy
   ·exact absurd (h2.1 x hx) (Ic x)
   ·exact hy
def I3 (x:V2):List V2→List V2
 | []=>[x]
 | y :: Q=>if Ak x y then y :: I3 x Q else x :: y :: Q
theorem Lr (x z:V2):∀ Q,z∈I3 x Q↔z=x∨z∈Q
 | []=>by simp [I3]
 | y :: Q=>by
  have ih:=Lr x z Q
  unfold I3
  split
  ·rw [List.mem_cons,ih,List.mem_cons]
   constructor
   ·rintro (h | h | h)
    ·exact .inr (.inl h)
    ·exact .inl h
    ·exact .inr (.inr h)
   ·rintro (h | h | h)
    ·exact .inr (.inl h)
    ·exact .inl h
    ·exact .inr (.inr h)
  ·simp
theorem RB (x:V2):∀ Q,(I3 x Q).length=Q.length+1
 | []=>rfl
 | y :: Q=>by
  have ih:=RB x Q
  unfold I3
  split
  ·simp [ih]
  ·simp
def pf (Q:List V2):Prop:=Q.Pairwise fun a b=>¬ Ak a b
theorem RA (x:V2):∀ Q,pf Q→pf (I3 x Q)
 | [],_=>by simp [pf,I3]
 | y :: Q,h=>by
  have h':=h
  unfold pf at h'
  rw [List.pairwise_cons] at h'
  have ih:=RA x Q h'.2
  unfold I3
  split
  ·rename_i hb
   unfold pf
   rw [List.pairwise_cons]
   refine ⟨fun z hz=>?_,ih⟩
   rcases (Lr x z Q).1 hz with rfl | hz
   ·exact fun hh=>Ic _ (Cn hb hh)
   ·exact h'.1 z hz
  ·rename_i hb
   unfold pf
   rw [List.pairwise_cons]
   refine ⟨fun z hz=>?_,h⟩
   rcases List.mem_cons.1 hz with rfl | hz2
   ·exact hb
   ·intro hh
    have h5:=h'.1 z hz2
    by_cases e:x=y
    ·rw [e] at hh; exact h5 hh
    ·exact h5 (Cn (GH hb e) hh)
theorem Rn (A R:List V2) (x:V2):(A ++ x :: R).getD A.length v0=x:=by
 rw [List.getD_eq_getElem?_getD,List.getElem?_append_right (Nat.le_refl _),Nat.sub_self]; rfl
theorem Nj (A R:List V2) (x y:V2):(A ++ y :: x :: R).getD (A.length+1) v0=x:=by
 rw [List.getD_eq_getElem?_getD,List.getElem?_append_right (by omega),Nat.add_sub_cancel_left]; rfl
theorem oh (A R:List V2) (x y:V2):bK (A ++ y :: x :: R) A.length=A ++ x :: y :: R:=by
 unfold bK
 rw [Rn,Nj,List.set_append_right _ _ (by omega),Nat.add_sub_cancel_left,List.set_append_right _ _ (Nat.le_refl _),Nat.sub_self]; rfl
theorem Lp (x:V2):∀ (Q R:List V2),BV (Q.reverse ++ x :: R) Q.length=(I3 x Q).reverse ++ R
 | [],R=>rfl
 | y :: Q,R=>by
  have ih:=Lp x Q (y :: R)
  have hl:Q.reverse.length=Q.length:=List.length_reverse
  have e:(y :: Q).reverse ++ x :: R=Q.reverse ++ y :: x :: R:=by simp
  rw [e]
  show BV (Q.reverse ++ y :: x :: R) (Q.length+1)=_
  unfold BV I3
  rw [← hl,Nj,Rn,oh,hl,ih]
  split
  ·simp
  ·simp
theorem M8 (L:List V2):∀ k,k<L.length→∃ Q R,B6 L k=Q.reverse ++ R∧Q.length=k+1∧pf Q∧∀ x,x∈B6 L k↔x∈L
 | 0,h=>by
  match L,h with
  | x :: R,_=>exact ⟨[x],R,rfl,rfl,by simp [pf],fun _=>Iff.rfl⟩
 | k+1,h=>by
  obtain ⟨Q,R,h1,h2,h3,h4⟩:=M8 L k (by omega)
  have hl:=BO L k
  match R,h1 with
  | [],h1=>rw [h1] at hl; simp at hl; omega
  | x :: R,h1 =>
   refine ⟨I3 x Q,R,?_,by rw [RB,h2],RA x Q h3,fun z=>?_⟩
   ·show BV (B6 L k) (k+1)=_
    rw [h1,← h2]; exact Lp x Q R
   ·rw [← h4 z]
    show z∈BV (B6 L k) (k+1)↔_
    rw [h1,← h2,Lp x Q R]
    simp only [List.mem_append,List.mem_reverse,List.mem_cons,Lr]
    constructor
    ·rintro ((h | h) | h)
     ·exact .inr (.inl h)
     ·exact .inl h
     ·exact .inr (.inr h)
    ·rintro (h | h | h)
     ·exact .inl (.inr h)
     ·exact .inl (.inl h)
     ·exact .inr h
def B9 (L:List V2):Nat→List V2
 | 0=>L.take 1
 | k+1=>if L.getD (k+1) v0=L.getD k v0 then B9 L k else B9 L k ++ [L.getD (k+1) v0]
theorem Vw (L:List V2):∀ k,(B9 L k).length≤k+1
 | 0=>by simp [B9]; omega
 | k+1=>by
  have ih:=Vw L k
  unfold B9
  split
  ·omega
  ·simp; omega
theorem fp (L:List V2) (hs:L.Pairwise fun a b=>¬ Ak b a):∀ k,k<L.length→(B9 L k).Pairwise Ak∧(∀ x,x∈B9 L k↔x∈L.take (k+1))∧∀ y∈B9 L k,y=L.getD k v0∨Ak y (L.getD k v0)
 | 0,h=>by
  match L,h with
  | x :: R,_=>exact ⟨by simp [B9],fun _=>by simp [B9],fun y hy=>.inl (by simpa [B9] using hy)⟩
 | k+1,h=>by
  obtain ⟨h1,h2,h3⟩:=fp L hs k (by omega)
  have ht:=Qq L v0 (k+1) h
  by_cases e:L.getD (k+1) v0=L.getD k v0
  ·have ec:B9 L (k+1)=B9 L k:=if_pos e
   rw [ec]
   refine ⟨h1,fun x=>?_,fun y hy=>by rw [e]; exact h3 y hy⟩
   rw [h2 x,ht,List.mem_append,List.mem_singleton]
   refine ⟨fun hx=>.inl hx,fun hx=>?_⟩
   rcases hx with hx | rfl
   ·exact hx
   ·rw [e,Qq L v0 k (by omega)]
    simp
  ·have ec:B9 L (k+1)=B9 L k ++ [L.getD (k+1) v0]:=if_neg e
   have hb:Ak (L.getD k v0) (L.getD (k+1) v0):=by
    refine GH (fun hh=>?_) e
    have:=(List.pairwise_iff_getElem.1 hs) k (k+1) (by omega) h (by omega)
    rw [List.getD_eq_getElem?_getD,List.getD_eq_getElem?_getD,List.getElem?_eq_getElem h,List.getElem?_eq_getElem (show k<L.length by omega)] at hh
    exact this hh
   have hall:∀ y∈B9 L k,Ak y (L.getD (k+1) v0):=fun y hy=>by
    rcases h3 y hy with rfl | g
    ·exact hb
    ·exact Cn g hb
   rw [ec]
   refine ⟨?_,fun x=>?_,fun y hy=>?_⟩
   ·rw [List.pairwise_append]
    exact ⟨h1,List.pairwise_singleton _ _,fun y hy z hz=>by rw [List.mem_singleton.1 hz]; exact hall y hy⟩
   ·rw [List.mem_append,h2 x,ht,List.mem_append]
   ·rcases List.mem_append.1 hy with hy | hy
    ·exact .inr (hall y hy)
    ·exact .inl (List.mem_singleton.1 hy)
theorem Ps (a b:PV) (f:FV) (t:V2) (n:Nat):t∈Qs a b f n↔∃ k,k<n∧(Ex a b f k).2=true∧(Ex a b f k).1=t:=by
 rw [← IJ,List.any_eq_true]
 constructor
 ·intro h; exact ⟨t,h,by simp⟩
 ·rintro ⟨x,hx,e⟩
  rw [of_decide_eq_true e] at hx
  exact hx
theorem Yk (a b:PV) (f:FV) (n:Nat) (h:0<(Qs a b f n).length):B9 (B6 (Qs a b f n) ((Qs a b f n).length - 1)) ((Qs a b f n).length - 1)=Z1 a b f n:=by
 obtain ⟨Q,R,h1,h2,h3,h4⟩:=M8 (Qs a b f n) ((Qs a b f n).length - 1) (by omega)
 have hl:=BO (Qs a b f n) ((Qs a b f n).length - 1)
 have hR:R=[]:=by
  rw [h1] at hl
  rw [List.length_append,List.length_reverse,h2] at hl
  exact List.eq_nil_of_length_eq_zero (by omega)
 subst hR
 rw [List.append_nil] at h1
 have hs:(B6 (Qs a b f n) ((Qs a b f n).length - 1)).Pairwise fun a b=>¬ Ak b a:=by
  rw [h1,List.pairwise_reverse]; exact h3
 obtain ⟨c1,c2,_⟩:=fp _ hs ((Qs a b f n).length - 1) (by omega)
 refine Wl _ _ c1 (Mf a b f n) fun x=>?_
 rw [c2 x,List.take_of_length_le (by omega),h4 x,Ps,BP]
theorem oX:WA Tryz.prog 148=true:=by kernel_rfl
theorem L4 (L:List V2):∀ k,k<L.length→(∀ j,j<k→L.getD (j+1) v0≠L.getD j v0)→B9 L k=L.take (k+1)
 | 0,h,_=>rfl
 | k+1,h,hn=>by
  unfold B9
  rw [if_neg (hn k (by omega)),L4 L k (by omega) (fun j hj=>hn j (by omega)),← Qq L v0 (k+1) h]
theorem fq (L:List V2) (k:Nat):B9 L (k+1)=if L.getD (k+1) v0=L.getD k v0 then B9 L k else B9 L k ++ [L.getD (k+1) v0]:=rfl
theorem P3 (C D:List V2) (x:V2) (h:D.length<C.length) (ht:C.take D.length=D):(C.set D.length x).take (D.length+1)=D ++ [x]:=by
 rw [Qq _ v0 _ (by rw [List.length_set]; exact h),List.take_set_of_le (Nat.le_refl _),ht,List.getD_eq_getElem?_getD,List.getElem?_set_self h]; rfl
theorem U6 (o0 o1 o2 o3 o4 o5 o6 o7:AO) (v:Nat) (L:List V2) (hL:∀ x∈L,vb x≤vm) (hn:L.length<1000) :
  HCall Tryz.prog 136 [.osl 8 v 8 0 L.length,.fn 67 []] [o0,o1,o2,o3,o4,o5,o6,o7,.row v (L.length*8) (Xw vC 8 v0 L)]
   (.osl 8 v 8 0 (B9 L (L.length - 1)).length) [o0,o1,o2,o3,o4,o5,o6,o7,.row v ((B9 L (L.length - 1)).length*8) (Xw vC 8 v0 (B9 L (L.length - 1)))]:=by
 have hat:∀ i,i<L.length→vb (L.getD i v0)≤vm:=fun i hi=>hL _ (JC hi)
 refine HCall.intro (fn:=Tryz.f136) Tryz.call136 Tryz.func136 rfl mixed 8 [] [6,7004,7009,11,12004,12009] [] (by kernel_rfl) (Nat.le_of_ble_eq_true rfl) (X0 1000 ?_)
 by_cases h2:2≤L.length
 rotate_left
 ·have e:B9 L (L.length - 1)=L:=by rw [show L.length - 1=0 by omega]; show L.take 1=L; exact List.take_of_length_le (by omega)
  rw [e]
  simp (disch:=omega) only [AS.start,↓Xo,wD,↓X2,wA,seval,wE]
  exact LV rfl rfl rfl
 simp (disch:=omega) only [AS.start,↓Xo,wD,↓X2,wA,seval,wE]
 refine Xe (fun k:Nat=>⟨8,[],[.osl 8 v 8 0 L.length,.fn 67 [],.any,.any,.any,I (k+1:Nat),.any,.any],[],[o0,o1,o2,o3,o4,o5,o6,o7,.row v (L.length*8) (Xw vC 8 v0 L)]⟩) (fun k=>k+1≤L.length∧∀ j,j<k→L.getD (j+1) v0≠L.getD j v0) (fun k=>L.length - k) 0 ⟨by omega,by omega⟩
  (Xa rfl (by simp [Xh,I]) (by simp [Xi]) rfl) ?_
 rintro k ⟨hk,hne⟩ next
 by_cases hk2:k+1<L.length
 rotate_left
 ·have e:B9 L (L.length - 1)=L:=by
   rw [L4 L (L.length - 1) (by omega) (fun j hj=>hne j (by omega))]; exact List.take_of_length_le (by omega)
  rw [e]
  refine X0 1000 ?_
  simp (disch:=omega) only [↓Xo,wD,↓X2,wA,seval,wE]
  exact LV rfl rfl rfl
 have c:=AQ (L.getD (k+1) v0) (L.getD k v0) (hat _ hk2) (hat _ (by omega))
 have a1:=JR vC 8 v0 L (k+1)
 have a2:=K6 vC 8 v0 L (k+1) (by omega)
 have b1:=JR vC 8 v0 L k
 have b2:=K6 vC 8 v0 L k (by omega)
 have hj1:(((k+1:Nat):Int) - 1).toNat=k:=by omega
 by_cases he:L.getD (k+1) v0=L.getD k v0
 rotate_left
 ·have nx:=next (k+1)
  rw [decide_eq_false he] at c
  have hne2:∀ j,j<k+1→L.getD (j+1) v0≠L.getD j v0:=fun j hj=>by
   by_cases e:j=k
   ·rw [e]; exact he
   ·exact hne j (by omega)
  generalize L.getD (k+1) v0=x at *
  generalize L.getD k v0=y at *
  refine X0 1000 ?_
  simp (disch:=omega) only [hj1,a1,a2,b1,b2,vC,↓Xo,wD,↓X2,wA,seval,wE]
  refine X1 c rfl ?_
  simp (disch:=omega) only [↓Xo,wD,↓X2,wA,seval,wE]
  exact nx _ ⟨by omega,hne2⟩ (by omega) (Xa rfl (by simp [Xh,I]) (by simp [Xi]) rfl)
 rw [decide_eq_true he] at c
 have hcm:B9 L k=L.take (k+1):=L4 L k (by omega) hne
 have hcm2:B9 L (k+1)=L.take (k+1):=by rw [fq,if_pos he,hcm]
 clear next he
 refine X0 1000 ?_
 generalize hx:L.getD (k+1) v0=x at a1 a2 c
 generalize hy:L.getD k v0=y at b1 b2 c
 simp (disch:=omega) only [hj1,a1,a2,b1,b2,vC,↓Xo,wD,↓X2,wA,seval,wE]
 refine X1 c rfl ?_
 simp (disch:=omega) only [↓Xo,wD,↓X2,wA,seval,wE]
 refine Xe (fun p:Nat×List V2=>⟨8,[],[.osl 8 v 8 0 L.length,.fn 67 [],.any,.any,.any,I (B9 L (k+1+p.1)).length,.osl 8 v 8 ((k+1)*8) (L.length - (k+1)),I (p.1+1:Nat)],[],[o0,o1,o2,o3,o4,o5,o6,o7,.row v (L.length*8) (Xw vC 8 v0 p.2)]⟩)
  (fun p=>k+1+p.1<L.length∧p.2.length=L.length∧p.2.take (B9 L (k+1+p.1)).length=B9 L (k+1+p.1)∧(B9 L (k+1+p.1)).length≤k+1+p.1∧∀ i,k+1+p.1≤i→i<L.length→p.2.getD i v0=L.getD i v0) (fun p=>L.length - p.1) (0,L)
  ⟨by show k+1+0<L.length; omega,rfl,by show L.take (B9 L (k+1)).length=B9 L (k+1); rw [hcm2,List.length_take,Nat.min_eq_left (by omega)],by show (B9 L (k+1)).length≤k+1; rw [hcm2,List.length_take]; omega,fun i _ _=>rfl⟩
  (Xa rfl (by simp [Xh,hcm2,I]; omega) (by simp [Xi]) rfl) ?_
 clear hcm hcm2 a1 a2 b1 b2 c hx hy
 rintro ⟨q,C⟩ ⟨g1,g2,g3,g4,g5⟩ next
 replace g1:k+1+q<L.length:=g1
 replace g2:C.length=L.length:=g2
 replace g3:C.take (B9 L (k+1+q)).length=B9 L (k+1+q):=g3
 replace g4:(B9 L (k+1+q)).length≤k+1+q:=g4
 replace g5:∀ i,k+1+q≤i→i<L.length→C.getD i v0=L.getD i v0:=g5
 by_cases hq:k+1+q+1<L.length
 rotate_left
 ·have e:k+1+q=L.length - 1:=by omega
  rw [e] at g3 g4
  clear next g5
  simp only [e]
  generalize B9 L (L.length - 1)=D at *
  refine X0 25 ?_
  simp (disch:=omega) only [oX,↓Xo,wD,↓X2,wA,seval,wE]
  have hgd:∀ i,i<D.length→C.getD i v0=D.getD i v0:=fun i hi=>by
   have:(C.take D.length)[i]?=C[i]?:=by rw [List.getElem?_take,if_pos hi]
   rw [List.getD_eq_getElem?_getD,List.getD_eq_getElem?_getD,← this,g3]
  refine Run.sub (s':=⟨8,[],[.osl 8 v 8 0 L.length,.any,.any,.any,.any,I D.length,.any,.any],[],[o0,o1,o2,o3,o4,o5,o6,o7,.row v (D.length*8) (Xw vC 8 v0 D)]⟩) ?_ (Sub.trans (QA 8 (D.length*8) (Xw vC 8 v0 D) rfl (by omega) (fun j hj=>by
   unfold MV Xw
   rw [if_neg (by omega),hgd (j / 8) (by omega)])) (Xa rfl (by simp [Xh,I]) (by simp [Xi]) (by simp)))
  refine X0 1000 ?_
  simp (disch:=omega) only [↓Xo,wD,↓X2,wA,seval,wE]
  exact LV rfl rfl rfl
 have s1:B9 L (k+1+(q+1))=if L.getD (k+1+q+1) v0=L.getD (k+1+q) v0 then B9 L (k+1+q) else B9 L (k+1+q) ++ [L.getD (k+1+q+1) v0]:=rfl
 have c:=AQ (L.getD (k+1+q+1) v0) (L.getD (k+1+q) v0) (hat _ hq) (hat _ g1)
 have a1:∀ r,r<8→Xw vC 8 v0 C ((k+1)*8+(q+1)*8+r)=(vC (L.getD (k+1+q+1) v0)).getD r .any:=fun r hr=>by
  rw [show (k+1)*8+(q+1)*8+r=(k+1+q+1)*8+r by omega,JR _ _ _ _ _ _ hr,g5 _ (by omega) hq]
 have a2:Xw vC 8 v0 C ((k+1)*8+(q+1)*8)=(vC (L.getD (k+1+q+1) v0)).getD 0 .any:=a1 0 (by omega)
 have b1:∀ r,r<8→Xw vC 8 v0 C ((k+1)*8+q*8+r)=(vC (L.getD (k+1+q) v0)).getD r .any:=fun r hr=>by
  rw [show (k+1)*8+q*8+r=(k+1+q)*8+r by omega,JR _ _ _ _ _ _ hr,g5 _ (by omega) g1]
 have b2:Xw vC 8 v0 C ((k+1)*8+q*8)=(vC (L.getD (k+1+q) v0)).getD 0 .any:=b1 0 (by omega)
 have hj2:(((q+1:Nat):Int) - 1).toNat=q:=by omega
 by_cases he:L.getD (k+1+q+1) v0=L.getD (k+1+q) v0
 ·rw [if_pos he] at s1
  rw [decide_eq_true he] at c
  have nx:=next (q+1,C)
  simp only [s1] at nx
  clear next he s1
  generalize L.getD (k+1+q+1) v0=x at *
  generalize L.getD (k+1+q) v0=y at *
  generalize B9 L (k+1+q)=D at *
  refine X0 1000 ?_
  simp (disch:=omega) only [hj2,a1,a2,b1,b2,vC,↓Xo,wD,↓X2,wA,seval,wE]
  refine X1 c rfl ?_
  simp (disch:=omega) only [↓Xo,wD,↓X2,wA,seval,wE]
  exact nx _ ⟨by omega,g2,g3,by omega,fun i h1 h2=>g5 i (by omega) h2⟩ (by omega) (Xa rfl (by simp [Xh,I]) (by simp [Xi]) rfl)
 rw [if_neg he] at s1
 rw [decide_eq_false he] at c
 have hset:=P3 C (B9 L (k+1+q)) (L.getD (k+1+q+1) v0) (by omega) g3
 have e1:=sD C (B9 L (k+1+q)).length (L.getD (k+1+q+1) v0) (by omega)
 have nx:=next (q+1,C.set (B9 L (k+1+q)).length (L.getD (k+1+q+1) v0))
 simp only [s1] at nx
 have hgd:∀ i,k+1+(q+1)≤i→i<L.length→(C.set (B9 L (k+1+q)).length (L.getD (k+1+q+1) v0)).getD i v0=L.getD i v0:=fun i h1 h2=>by
  rw [List.getD_eq_getElem?_getD,List.getElem?_set_ne (by omega),← List.getD_eq_getElem?_getD]; exact g5 i (by omega) h2
 clear next he s1 g5
 generalize L.getD (k+1+q+1) v0=x at *
 generalize L.getD (k+1+q) v0=y at *
 generalize B9 L (k+1+q)=D at *
 refine X0 1000 ?_
 simp (disch:=omega) only [hj2,a1,a2,b1,b2,vC,↓Xo,wD,↓X2,wA,seval,wE]
 refine X1 c rfl ?_
 simp (disch:=omega) only [hj2,a1,a2,b1,b2,vC,↓Xo,wD,↓X2,wA,seval,wE]
 exact nx _ ⟨by omega,by rw [List.length_set]; exact g2,by rw [List.length_append,List.length_singleton]; exact hset,by rw [List.length_append,List.length_singleton]; omega,hgd⟩ (by omega) (Xa rfl (by simp [Xh,I]) (by simp [Xi]) (by rw [← e1]; rfl))
def Z7 (p:PV):AV:=.ptr 25 (Xq (XD p)) 0
theorem QR (p:PV):Z7 p=.ptr 25 (Xq (XD p)) 0:=nrfl rfl
theorem K4 (p:PV):Settled (Z7 p):=QV fun j hj=>Xd (XF p) j
theorem OZ (a b:PV):Fn Tryz.prog 131 [Qd a,Qd b] (.fn 197 [Z7 a,Z7 b]):=by
 refine Fq Tryz.call131 Tryz.func131 5 [] [] [] (by simp [Xu]) (X0 1000 ?_)
 simp (disch:=omega) only [AS.start,Qd,XD,↓Xo,wD,↓X2,wA,seval,wE]
 refine At rfl (C7 ⟨KU (.inl rfl) (by omega) fun j hj=>?_,KU (.inl rfl) (by omega) fun j hj=>?_,trivial⟩)
 ·exact (Xd (XF a) j).sees _
 ·exact (Xd (XF b) j).sees _
theorem HP (f:Nat→AV) (t:Bool):Settled (.sl 0 0 f t):=J0 fun j hj=>absurd hj (Nat.not_lt_zero j)
def ud (i j k:Nat):List AV:=[I 0,I 1,I i,I j,I k] ++ (XM ++ (XM ++ XM))
theorem SG (i j k:Nat):∀ x∈ud i j k,Settled x:=by simp [ud,XM,X8,X3,HP]
theorem Lx (g:Nat→List FV) (h:∀ k,(g k).length≤(g (k+1)).length) {k k':Nat} (hk:k≤k'):(g k).length≤(g k').length:=by
 induction hk with
 | refl=>exact Nat.le_refl _
 | step _ ih=>exact Nat.le_trans ih (h _)
theorem nG (a b:PV) (e:Rat) {i j k:Nat} (hi:i<a.rim.length) (hj:j<b.rim.length) (hk:k≤min a.rim.length b.rim.length - 1):(Zn a b e i ++ ZH a b e i j ++ Ag a b e i j k).length≤(Dk a b e).length:=by
 have h1:=Lx (Ag a b e i j) (fun k=>by show _≤(Ag a b e i j k ++ _).length; simp) hk
 have h2:=Lx (ZH a b e i) (fun k=>by show _≤(ZH a b e i k ++ _).length; simp) (show j+1≤b.rim.length by omega)
 have h3:=Lx (Zn a b e) (fun k=>by show _≤(Zn a b e k ++ _).length; simp) (show i+1≤a.rim.length by omega)
 have e2:(ZH a b e i (j+1)).length=(ZH a b e i j).length+(Ag a b e i j (min a.rim.length b.rim.length - 1)).length:=by show (ZH a b e i j ++ _).length=_; rw [List.length_append]
 have e3:(Zn a b e (i+1)).length=(Zn a b e i).length+(ZH a b e i b.rim.length).length:=by show (Zn a b e i ++ _).length=_; rw [List.length_append]
 have e4:(Dk a b e).length=(Zn a b e a.rim.length).length:=rfl
 rw [List.length_append,List.length_append]
 omega
theorem Ma (a b:PV) (e:Rat) (t:Tok) (m:Nat) (Hs:List FV→List AO) (la:a.rim.length≤1000) (lb:b.rim.length≤1000) (ha:0<a.rim.length) (hb:0<b.rim.length) (hHs:∀ D,P8 m (Hs D)) (hce:t.ce.H.length≤m)
  (hy:∀ i j k D,i<a.rim.length→j<b.rim.length→k+1<min a.rim.length b.rim.length→D.length≤(Dk a b e).length→YCall Tryz.prog t [.agg (ud i j (k+1))] (Hs D) (.bool true) (Hs (D ++ EH a b e i j (k+1)))) :
  ICall Tryz.prog t 197 [.yld t.l,Z7 a,Z7 b] (Hs []) (Hs (Dk a b e)):=by
 refine ICall.intro (fn:=Tryz.f197) Tryz.call197 Tryz.func197 rfl mixed 9 [15,16,19,20] [] [] (by kernel_rfl) (Nat.le_of_ble_eq_true rfl) (by rw [(hHs []).1]; exact hce) (by rw [(hHs []).1]; exact fun o ho=>((hHs _).2 o ho).1) (X0 1000 ?_)
 simp (disch:=omega) only [AS.start,QR,XD,Xg,↓Xo,wD,↓X2,wA,seval,wE]
 refine Xe (fun i:Nat=>⟨9,[15,16,19,20],[.yld t.l,Z7 a,Z7 b,.any,I a.rim.length,I b.rim.length,.any,.any,.any],[(15,I a.rim.length),(16,I i)],Hs (Zn a b e i)⟩) (fun i=>i≤a.rim.length) (fun i=>a.rim.length - i) 0 (by omega)
  (Xa rfl (by simp [Xh,QR,XD,Xg,Xn,X4,I]) (by simp [Xi,Xv,I]) (by simp [Zn])) ?_
 intro i hi next
 by_cases hi2:i<a.rim.length
 rotate_left
 ·obtain rfl:i=a.rim.length:=by omega
  refine X0 1000 ?_
  simp (disch:=omega) only [QR,↓Xo,wD,↓X2,wA,seval,wE]
  exact rW rfl (by show (Hs _).take (Hs []).length=_; rw [(hHs []).1,← (hHs (Zn a b e a.rim.length)).1,List.take_length]; rfl)
 refine X0 1000 ?_
 simp (disch:=omega) only [QR,↓Xo,wD,↓X2,wA,seval,wE]
 refine Xe (fun j:Nat=>⟨9,[15,16,19,20],[.yld t.l,Z7 a,Z7 b,.any,I a.rim.length,I b.rim.length,I i,.any,.any],[(19,I b.rim.length),(20,I j),(15,I a.rim.length),(16,I i)],Hs (Zn a b e i ++ ZH a b e i j)⟩) (fun j=>j≤b.rim.length) (fun j=>b.rim.length - j) 0 (by omega)
  (Xa rfl (by simp [Xh,QR,I]) (by simp [Xi,Xv,I]) (by simp [ZH])) ?_
 intro j hj next2
 by_cases hj2:j<b.rim.length
 rotate_left
 ·obtain rfl:j=b.rim.length:=by omega
  refine X0 1000 ?_
  simp (disch:=omega) only [QR,↓Xo,wD,↓X2,wA,seval,wE]
  exact next (i+1) _ (by omega) (by omega) (Xa rfl (by simp [Xh,QR,I]) (by simp [Xi,Xv,I]) (by simp [Zn]))
 clear next
 have nx2:=next2 (j+1)
 rw [show ZH a b e i (j+1)=ZH a b e i j ++ Ag a b e i j (min a.rim.length b.rim.length - 1) from rfl,← List.append_assoc] at nx2
 have hpre:=fun k hk=>nG a b e (k:=k) hi2 hj2 hk
 generalize Zn a b e i ++ ZH a b e i j=D at *
 clear next2
 refine X0 1000 ?_
 simp (disch:=omega) only [QR,↓Xo,wD,↓X2,wA,seval,wE]
 refine Xe (fun k:Nat=>⟨9,[15,16,19,20],[.yld t.l,Z7 a,Z7 b,.any,I a.rim.length,I b.rim.length,I i,I j,I (k+1:Nat)],[(19,I b.rim.length),(20,I j),(15,I a.rim.length),(16,I i)],Hs (D ++ Ag a b e i j k)⟩) (fun k=>k≤min a.rim.length b.rim.length - 1) (fun k=>min a.rim.length b.rim.length - k) 0 (by omega)
  (Xa rfl (by simp [Xh,QR,I]) (by simp [Xi,Xv,I]) (by simp [Ag])) ?_
 intro k hk next3
 by_cases hk2:k+1<min a.rim.length b.rim.length
 rotate_left
 ·obtain rfl:k=min a.rim.length b.rim.length - 1:=by omega
  refine X0 1000 ?_
  simp (disch:=omega) only [QR,↓Xo,wD,↓X2,wA,seval,wE]
  exact nx2 _ (by omega) (by omega) (Xa rfl (by simp [Xh,QR,I]) (by simp [Xi,Xv,I]) (by simp))
 have nx3:=next3 (k+1)
 rw [show Ag a b e i j (k+1)=Ag a b e i j k ++ EH a b e i j (k+1) from rfl,← List.append_assoc] at nx3
 have hE:=hpre k (by omega)
 clear hpre
 generalize D ++ Ag a b e i j k=E at *
 obtain ⟨q1,q2⟩:=hHs E
 obtain ⟨q3,q4⟩:=hHs (E ++ EH a b e i j (k+1))
 refine X0 1000 ?_
 simp (disch:=omega) only [QR,↓Xo,wD,↓X2,wA,seval,wE]
 refine CL (t:=t) (H1:=Hs E) (H1':=Hs (E ++ EH a b e i j (k+1))) (rest:=[]) rfl rfl (List.mem_singleton.2 rfl) (hy i j k E hi2 hj2 hk2 hE) (List.append_nil _).symm (q3.trans q1.symm) (by rw [q1]; exact hce) ?_ (by rw [q1]; exact fun o ho=>(q2 o ho).1) (fun o ho=>(q2 o ho).2.1) (fun o ho=>(q4 o ho).2.1) (QP (fun o ho=>(q2 o ho).2.2) (fun o ho=>(q4 o ho).2.2)) ⟨?_,trivial⟩ ?_
 ·intro x hx
  rw [List.mem_singleton.1 hx]
  exact X6 (Q6 (SG _ _ _))
 ·exact Weak.rfl' _
 simp (disch:=omega) only [QR,↓Xo,wD,↓X2,wA,seval,wE]
 exact nx3 _ (by omega) (by omega) (Xa rfl (by simp [Xh,QR,I]) (by simp [Xi,Xv,I]) (by simp))
def Hr (p:FV→Bool) (s:List FV):Int:=if s.any p=true then (s.findIdx p:Nat) else -1
theorem Ll {s:List FV} {j:Nat} (h:j<s.length):s.getD j fv0∈s:=by
 rw [List.getD_eq_getElem?_getD,List.getElem?_eq_getElem h]; exact List.getElem_mem h
theorem am {p:FV→Bool} {s:List FV} {j:Nat} (hj:j<s.length) (h:p (s.getD j fv0)=true) (hno:∀ i,i<j→p (s.getD i fv0)=false):Hr p s=j:=by
 have at_:∀ i (hi:i<s.length),s.getD i fv0=s[i]:=fun i hi=>by rw [List.getD_eq_getElem?_getD,List.getElem?_eq_getElem hi]; rfl
 have e:s.findIdx p=j:=by
  rw [List.findIdx_eq hj]
  exact ⟨by rw [← at_ j hj]; exact h,fun i hi=>by rw [← at_ i (by omega)]; exact hno i hi⟩
 unfold Hr
 rw [if_pos (List.any_eq_true.2 ⟨_,Ll hj,h⟩),e]
theorem Uo {p:FV→Bool} {s:List FV} (hno:∀ i,i<s.length→p (s.getD i fv0)=false):Hr p s = -1:=by
 unfold Hr
 rw [if_neg]
 intro h
 obtain ⟨x,hx,hp⟩:=List.any_eq_true.1 h
 obtain ⟨i,hi,rfl⟩:=List.getElem_of_mem hx
 have:=hno i hi
 rw [List.getD_eq_getElem?_getD,List.getElem?_eq_getElem hi] at this
 simp only [Option.getD_some] at this
 rw [this] at hp; cases hp
theorem Nl (p:FV→Bool) (s:List FV):decide (0≤Hr p s)=s.any p:=by
 unfold Hr
 cases h:s.any p
 ·simp
 ·rw [if_pos rfl]; exact decide_eq_true (by omega)
theorem Ui (s:List FV) (f:FuncId) (caps:List AV) (p:FV→Bool) (hl:s.length<1000000) (hc:∀ a∈caps,Settled a) (hp:∀ x∈s,Fn Tryz.prog f ([Ke x] ++ caps) (.bool (p x))) :
  Fn Tryz.prog 204 [Rl s,.fn f caps] (I (Hr p s)):=by
 refine Fn.intro (fn:=Tryz.f204) Tryz.call204 Tryz.func204 rfl mixed 6 [6,7,8] [] [] (by kernel_rfl) (Nat.le_of_ble_eq_true rfl) (by simpa [KV] using Jg hc) (X0 1000 ?_)
 simp (disch:=omega) only [AS.start,QG,↓Xo,wD,↓X2,wA,seval,wE]
 refine Xe (fun j:Nat=>⟨6,[6,7,8],[Rl s,.fn f caps,.any,.any,.any,.any],[(6,Rl s),(7,I s.length),(8,I j)],[]⟩) (fun j=>j≤s.length∧∀ i,i<j→p (s.getD i fv0)=false) (fun j=>s.length - j) 0 ⟨by omega,by omega⟩
  (Xa rfl (by simp [Xh,QG,I]) (by simp [Xi,Xv,QG,I]) rfl) ?_
 rintro j ⟨hj,hno⟩ next
 by_cases hj2:j<s.length
 ·have v1:=fF s j
  have v2:=um s j
  refine X0 1000 ?_
  simp (disch:=omega) only [QG,v1,v2,Qc,↓Xo,wD,↓X2,wA,seval,wE]
  refine Qm (hp _ (Ll hj2)) (XS _) ?_
  simp (disch:=omega) only [↓Xo,wD,↓X2,wA,seval,wE]
  refine QS (fun ht=>Xs (v:=I j) rfl rfl (X8 _) ?_) (fun hf=>next (j+1) _ ⟨by omega,JJ.2 ⟨hno,hf⟩⟩ (by omega) (Xa rfl (by simp [Xh,QG,I]) (by simp [Xi,Xv,QG,I]) rfl))
  rw [am hj2 ht hno]
 ·refine X0 1000 ?_
  simp (disch:=omega) only [QG,↓Xo,wD,↓X2,wA,seval,wE]
  refine Xs (v:=I (-1)) rfl rfl (X8 _) ?_
  rw [Uo fun i hi=>hno i (by omega)]
theorem ML (s:List FV) (f:FuncId) (caps:List AV) (p:FV→Bool) (hl:s.length<1000000) (hc:∀ a∈caps,Settled a) (hp:∀ x∈s,Fn Tryz.prog f ([Ke x] ++ caps) (.bool (p x))) :
  Fn Tryz.prog 139 [Rl s,.fn f caps] (.bool (s.any p)):=by
 have hi:=Nl p s
 refine Fn.intro (fn:=Tryz.f139) Tryz.call139 Tryz.func139 rfl mixed 5 [] [] [] (by kernel_rfl) (Nat.le_of_ble_eq_true rfl) (by simpa [KV] using Jg hc) (X0 1000 ?_)
 simp (disch:=omega) only [AS.start,↓Xo,wD,↓X2,wA,seval,wE]
 refine X1 (Ui s f caps p hl hc hp) rfl ?_
 simp (disch:=omega) only [↓Xo,wD,↓X2,wA,seval,wE]
 exact Xs (v:=.bool (decide (0≤Hr p s))) rfl rfl (X3 _) (by rw [Nl])
theorem aa (a b:PV) (f g:FV) (ha:0<a.rim.length∧a.rim.length<1000000) (hb:0<b.rim.length∧b.rim.length<1000000) (nf:f.near) (ng:g.near) (hf:vb f.turn≤vm) (hg:vb g.turn≤vm) :
  Fn Tryz.prog 140 ([Ke g] ++ [ph f,Z7 a,Z7 b]) (.bool (decide (S8 a.rim.length b.rim.length f g))):=by
 obtain ⟨V,hV⟩:∃ V,V=decide (S8 a.rim.length b.rim.length f g):=⟨_,rfl⟩
 rw [← hV]
 replace hV:=(Bool.eq_iff_iff.1 hV).trans decide_eq_true_iff
 have fin:∀ {s:AS} {v:Bool},s.get 5=.bool v→v=V→RetOk (Qt Tryz.prog Tryz.f140 [2,30000004] [] (.bool V)) s:=fun h e=>Xs rfl h (X3 _) (by rw [e])
 obtain ⟨f1,f2,f3⟩:=nf
 obtain ⟨g1,g2,g3⟩:=ng
 have d0:=Int.emod_nonneg (f.EA - g.EA) (show (a.rim.length:Int)≠0 by omega)
 have d1:=Int.emod_lt_of_pos (f.EA - g.EA) (show (0:Int)<a.rim.length by omega)
 have c1:=Am (f.EA - g.EA) a.rim.length ha.1 (by omega) (by omega)
 have c2:=Am (g.EB - (f.EA - g.EA) % a.rim.length) b.rim.length hb.1 (by omega) (by omega)
 have c3:=AQ f.turn g.turn hf hg
 unfold S8 at hV
 generalize (f.EA - g.EA) % (a.rim.length:Int)=d at *
 generalize (g.EB - d) % (b.rim.length:Int)=r at *
 refine Fq Tryz.call140 Tryz.func140 7 [] [2,30000004] [] (by simp [XE,C8,K4]) (X0 1000 ?_)
 simp (disch:=omega) only [AS.start,QR,ph,XD,Xg,Ke,Qc,List.cons_append,List.nil_append,↓Xo,wD,↓X2,wA,seval,wE]
 refine X1 c1 rfl ?_
 by_cases h1:f.M<g.M
 rotate_left
 ·simp (disch:=omega) only [↓Xo,wD,↓X2,wA,seval,wE]
  exact fin rfl (vN hV (fun hh=>h1 hh.1))
 by_cases h2:d+f.M≤g.M
 rotate_left
 ·simp (disch:=omega) only [↓Xo,wD,↓X2,wA,seval,wE]
  exact fin rfl (vN hV (fun hh=>h2 hh.2.1))
 simp (disch:=omega) only [↓Xo,wD,↓X2,wA,seval,wE]
 refine X1 c2 rfl ?_
 by_cases h3:r=f.EB
 rotate_left
 ·simp (disch:=omega) only [↓Xo,wD,↓X2,wA,seval,wE]
  exact fin rfl (vN hV (fun hh=>h3 hh.2.2.1))
 simp (disch:=omega) only [↓Xo,wD,↓X2,wA,seval,wE]
 refine X1 c3 rfl ?_
 simp (disch:=omega) only [↓Xo,wD,↓X2,wA,seval,wE]
 exact fin rfl (vI hV ⟨fun hh=>hh.2.2.2,fun hh=>⟨h1,h2,h3,hh⟩⟩)
def Uh (W:List FV):AV:=.ptr 1 (Xq [Rl W]) 0
theorem FG (W:List FV):Uh W=.ptr 1 (Xq [Rl W]) 0:=nrfl rfl
theorem Da (W:List FV):Settled (Uh W):=QV fun j hj=>by
 obtain rfl:j=0:=by omega
 exact KV W
theorem gj (a b:PV) (f:FV) (W:List FV) (ha:0<a.rim.length∧a.rim.length<1000000) (hb:0<b.rim.length∧b.rim.length<1000000) (hW:W.length<1000000) (nf:f.near) (hf:vb f.turn≤vm) (hall:∀ g∈W,g.near∧vb g.turn≤vm) :
  Fn Tryz.prog 138 ([Ke f] ++ [Uh W,Z7 a,Z7 b]) (.bool (Rv a.rim.length b.rim.length W f)):=by
 have c:=ML W 140 [ph f,Z7 a,Z7 b] (fun g=>decide (S8 a.rim.length b.rim.length f g)) hW (by simp [C8,K4]) (fun g hg=>aa a b f g ha hb nf (hall g hg).1 hf (hall g hg).2)
 change Fn _ _ _ (.bool (Rv a.rim.length b.rim.length W f)) at c
 generalize Rv a.rim.length b.rim.length W f=V at *
 refine Fq Tryz.call138 Tryz.func138 6 [] [] [] (by simp [XE,Da,K4]) (X0 1000 ?_)
 simp (disch:=omega) only [AS.start,FG,QR,QG,Ke,Qc,List.cons_append,List.nil_append,↓Xo,wD,↓X2,wA,seval,wE]
 refine JI c rfl ⟨(KV W).sees _,C7 ⟨?_,(K4 a).sees _,(K4 b).sees _,trivial⟩,trivial⟩ (An _) ?_
 ·exact KU (.inl rfl) (by omega) fun j hj=>(Xd (Qj f) j).sees _
 simp (disch:=omega) only [↓Xo,wD,↓X2,wA,seval,wE]
 exact Xs rfl rfl (X3 _) rfl
end
end Go.Ab.N
