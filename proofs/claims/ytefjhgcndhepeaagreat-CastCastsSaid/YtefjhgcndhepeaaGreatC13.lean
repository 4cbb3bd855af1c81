/- Contracts of functions of these chapters, for every argument that fits, and what they need. -/
import Derived.Test.YtefjhgcndhepeaaGreatC12
import Derived.Test.YtefjhgcndhepeaaGreatC6
set_option linter.unusedSimpArgs false
set_option linter.unusedVariables false
open Nat renaming reducePow → Y1, reduceLT → Y2, reduceLeDiff → Y3, reduceEqDiff → Y4, reduceAdd → Y5, reduceMul → Y6, reduceSub → Y7, reduceBEq → Y8, reduceDiv → Y9, reduceMod → YA
namespace Go.Ab.N
open Go Go.RowKit Go.Proofs
noncomputable section
set_option maxRecDepth 10000
set_option maxHeartbeats 4000000
open Classical
def QD (l:List Int) (W H M k:Nat):Int×Int:=(1+Ab.atF l (3+k:Nat) ((W:Int) - 1),if k=M then (H:Int) else k)
def Jy (l:List Int) (W H M:Nat):List (Int×Int):=(List.range (M+1)).map (QD l W H M)
def J1 (l:List Int) (W H M:Nat):List (Int×Int):=(0,0) :: Jy l W H M ++ [(0,(H:Int))]
def KX (l:List Int) (W H M i:Nat):List (Int×Int):=[QD l W H M 0,((W:Int),0),((W:Int),(H:Int))] ++ (List.range i).map fun i=>QD l W H M (M - i)
def Jm (l:List Int) (W H M:Nat):List (Int×Int):=KX l W H M M
def P7 (l:List Int):Int×Int:=(Ab.atF l 8 9 - 4,Ab.atF l 9 9 - 4)
def YF (l:List Int):Nat:=(Ab.atF l 7 4).toNat
def ZY (l:List Int) (W H M:Nat):List (Int×Int):=(Jm l W H M).map (pZ (YF l) (P7 l))
def Dx (l:List Int):V2:=Kp ((4 - YF l) % 4) KG
def Dw (l:List Int):V2:=v0.sub (Lv (Dx l) (Js (P7 l)))
def HV (l:List Int) (M:Nat):FV:=⟨0,1,1,(M+2:Nat),M,Dx l,Dw l,Dw l⟩
def iY (a b:PV) (f:FV):List AV:=XC a ++ (XC b ++ Qg f)
def Z1:List AV:=[I 0,I 0,I 0,I 0,I 0] ++ (XT ++ (XT ++ XT))
theorem Ph (l:List Int) (W H M k:Nat) (h:k≤M):(Jy l W H M).getD k (0,0)=QD l W H M k:=I3 _ _ _ _ (by omega)
theorem Pi (l:List Int) (W H M k:Nat) (hW:4≤W∧W≤7) (hH:H≤6) (hk:k≤3):(1≤(QD l W H M k).1∧(QD l W H M k).1<W)∧0≤(QD l W H M k).2∧(QD l W H M k).2≤6:=by
 have:=XY l (3+k:Nat) ((W:Int) - 1) (by omega)
 unfold QD
 simp only
 refine ⟨by omega,?_⟩
 split <;> omega
theorem kI (C:List (Int×Int)) (x y:Int×Int) (j:Nat) (h:j<C.length):(x :: C ++ [y]).getD (j+1) (0,0)=C.getD j (0,0):=by
 rw [List.getD_eq_getElem?_getD,List.getD_eq_getElem?_getD,List.cons_append,List.getElem?_cons_succ,List.getElem?_append_left h]
theorem WZ (C:List (Int×Int)) (h:Int) (j:Nat) (hj:j<(C.length+2)*2):QK ((1+C.length)*2) (QK 2 (Xq [I 0,I 0]) (C.length*2) (XB KH 2 (0,0) C)) 2 (Xq [I 0,I h]) j=XB KH 2 (0,0) ((0,0) :: C ++ [(0,h)]) j:=by
 unfold QK XB
 by_cases h1:j<(1+C.length)*2
 ·rw [if_pos h1]
  by_cases h2:j<2
  ·rw [if_pos h2]
   match j,h2 with
   | 0,_=>rfl
   | 1,_=>rfl
  ·rw [if_neg h2,if_pos (by omega)]
   obtain ⟨i,rfl⟩:∃ i,j=i+2:=⟨j - 2,by omega⟩
   rw [show (i+2) / 2=i / 2+1 by omega,show (i+2) % 2=i % 2 by omega,show i+2 - 2=i by omega,kI C (0,0) (0,h) (i / 2) (by omega)]
 ·rw [if_neg h1,if_pos (by omega)]
  have e:((0,0) :: C ++ [(0,h)]).getD (j / 2) (0,0)=(0,h):=by
   rw [show j / 2=C.length+1 by omega,List.getD_eq_getElem?_getD,List.cons_append,List.getElem?_cons_succ,List.getElem?_append_right (Nat.le_refl _),Nat.sub_self]; rfl
  rw [e]
  obtain ⟨i,hi,rfl⟩:∃ i,i<2∧j=(1+C.length)*2+i:=⟨j - (1+C.length)*2,by omega,by omega⟩
  rw [Nat.add_sub_cancel_left,show ((1+C.length)*2+i) % 2=i by omega]
  match i,hi with
  | 0,_=>rfl
  | 1,_=>rfl
theorem U4 (a b c d:Int×Int) (j:Nat) (hj:j<8):QK 6 (Xq (KH a ++ (KH b ++ KH c))) 2 (Xq (KH d)) j=XB KH 2 (0,0) [a,b,c,d] j:=by
 match j,hj with
 | 0,_=>rfl
 | 1,_=>rfl
 | 2,_=>rfl
 | 3,_=>rfl
 | 4,_=>rfl
 | 5,_=>rfl
 | 6,_=>rfl
 | 7,_=>rfl
def FB (g:Int×Int→Int×Int) (S:List (Int×Int)) (k:Nat):List (Int×Int):=(S.take k).map g ++ S.drop k
theorem V6 (g:Int×Int→Int×Int) (S:List (Int×Int)) (k:Nat) (h:k<S.length):(FB g S k).getD k (0,0)=S.getD k (0,0):=by
 unfold FB
 rw [List.getD_eq_getElem?_getD,List.getElem?_append_right (by simp; omega),List.getD_eq_getElem?_getD]
 simp [Nat.min_eq_left (Nat.le_of_lt h)]
theorem fE (g:Int×Int→Int×Int) (S:List (Int×Int)) (k:Nat) (h:k≤S.length):(FB g S k).length=S.length:=by unfold FB; simp; omega
theorem fG (g:Int×Int→Int×Int) (S:List (Int×Int)) (k:Nat) (h:k<S.length):(FB g S k).set k (g (S.getD k (0,0)))=FB g S (k+1):=by
 refine List.ext_getElem? fun j=>?_
 unfold FB
 rw [List.getElem?_set]
 by_cases hj:k=j
 ·subst hj
  rw [if_pos rfl,if_pos (by simp; omega),List.getElem?_append_left (by simp; omega),List.getElem?_map,List.getElem?_take,if_pos (by omega),List.getElem?_eq_getElem h,List.getD_eq_getElem?_getD,List.getElem?_eq_getElem h]; rfl
 ·rw [if_neg hj]
  by_cases hlt:j<k
  ·rw [List.getElem?_append_left (by simp; omega),List.getElem?_append_left (by simp; omega),List.getElem?_map,List.getElem?_map,List.getElem?_take,List.getElem?_take,if_pos hlt,if_pos (by omega)]
  ·rw [List.getElem?_append_right (by simp; omega),List.getElem?_append_right (by simp; omega),List.getElem?_drop,List.getElem?_drop]
   congr 1
   simp; omega
theorem sd (l:List (Int×Int)) (k:Nat) (x:Int×Int) (hk:k<l.length):Cs (Cs (XB KH 2 (0,0) l) (k*2) (I x.1)) (k*2+1) (I x.2)=XB KH 2 (0,0) (l.set k x):=by
 funext j
 have e:(l.set k x).getD k (0,0)=x:=by rw [List.getD_eq_getElem?_getD,List.getElem?_set_self hk]; rfl
 unfold Cs XB
 by_cases h1:j=k*2+1
 ·rw [if_pos h1,h1,show (k*2+1) / 2=k by omega,show (k*2+1) % 2=1 by omega,e]; rfl
 ·rw [if_neg h1]
  by_cases h2:j=k*2
  ·rw [if_pos h2,h2,show (k*2) / 2=k by omega,show (k*2) % 2=0 by omega,e]; rfl
  ·rw [if_neg h2]
   have:(l.set k x).getD (j / 2) (0,0)=l.getD (j / 2) (0,0):=by rw [List.getD_eq_getElem?_getD,List.getElem?_set_ne (by omega),List.getD_eq_getElem?_getD]
   rw [this]
theorem EQ (l:List Int) (W H M:Nat) (hW:4≤W∧W≤7) (hH:H≤6) (hM:M≤3) (k:Nat) (hk:k≤M):(0≤(QD l W H M k).1∧(QD l W H M k).1≤7)∧0≤(QD l W H M k).2∧(QD l W H M k).2≤7:=by
 have:=Pi l W H M k hW hH (by omega)
 omega
theorem IM (l:List Int) (W H M:Nat) (hW:4≤W∧W≤7) (hH:H≤6) (hM:M≤3):QU (J1 l W H M):=fun c hc=>by
 unfold J1 at hc
 rw [List.mem_append,List.mem_cons,List.mem_singleton] at hc
 rcases hc with (rfl | hc) | rfl
 ·exact ⟨⟨by decide,by decide⟩,⟨by decide,by decide⟩⟩
 ·obtain ⟨k,hk,rfl⟩:=List.mem_map.1 hc
  have:=EQ l W H M hW hH hM k (by have:=List.mem_range.1 hk; omega)
  omega
 ·show (-65536≤(0:Int)∧(0:Int)≤65536)∧(-65536≤(H:Int)∧(H:Int)≤65536)
  omega
theorem Ho (l:List Int) (W H M:Nat) (hW:4≤W∧W≤7) (hH:H≤6) (hM:M≤3):∀ c∈Jm l W H M,(0≤c.1∧c.1≤7)∧0≤c.2∧c.2≤7:=fun c hc=>by
 unfold Jm KX at hc
 simp only [List.mem_append,List.mem_cons,List.not_mem_nil,or_false,List.mem_map,List.mem_range] at hc
 rcases hc with (rfl | rfl | rfl) | ⟨k,hk,rfl⟩
 ·exact EQ l W H M hW hH hM 0 (by omega)
 ·show (0≤(W:Int)∧(W:Int)≤7)∧0≤(0:Int)∧(0:Int)≤7
  omega
 ·show (0≤(W:Int)∧(W:Int)≤7)∧0≤(H:Int)∧(H:Int)≤7
  omega
 ·exact EQ l W H M hW hH hM (M - k) (by omega)
theorem Hu (l:List Int) (W H M:Nat) (hW:4≤W∧W≤7) (hH:H≤6) (hM:M≤3):QU (ZY l W H M):=fun c hc=>by
 obtain ⟨p,hp,rfl⟩:=List.mem_map.1 hc
 have h1:=Ho l W H M hW hH hM p hp
 have h2:=Ge p 7 (by omega) (by omega) (YF l)
 have b8:=XY l 8 9 (by omega)
 have b9:=XY l 9 9 (by omega)
 show (-65536≤(KT (YF l) p).1+(Ab.atF l 8 9 - 4)∧(KT (YF l) p).1+(Ab.atF l 8 9 - 4)≤65536)∧(-65536≤(KT (YF l) p).2+(Ab.atF l 9 9 - 4)∧(KT (YF l) p).2+(Ab.atF l 9 9 - 4)≤65536)
 omega
theorem Lc (l:List Int):vb (Dx l)≤10∧vb (Dw l)≤100:=by
 have h1:vb (Dx l)≤10:=by unfold Dx; rw [GR]; exact DL
 have b8:=XY l 8 9 (by omega)
 have b9:=XY l 9 9 (by omega)
 have h2:vb (Js (P7 l))≤3:=by
  have q1:=Zt (P7 l).1 3 (by omega) (QM (by unfold P7; simp only; exact ⟨by omega,by omega⟩))
  have q2:=Zt (P7 l).2 3 (by omega) (QM (by unfold P7; simp only; exact ⟨by omega,by omega⟩))
  unfold vb Js
  simp only
  omega
 have h3:=CY (Dx l) (Js (P7 l))
 have h4:=K5 v0 (Lv (Dx l) (Js (P7 l)))
 have:=Ez
 refine ⟨h1,?_⟩
 unfold Dw
 omega
def HE (l:List Int) (W H:Nat):List Int:=[(W:Int) - 4,(H:Int) - 3,0,Ab.atF l 3 ((W:Int) - 1),Ab.atF l 4 ((W:Int) - 1),0,0,Ab.atF l 7 4]
def Ap (l:List Int) (W H M:Nat) (x9 x10 x11 x12 x13 x14 x16 x17 x18:AV) (r:List AO):AS:=⟨20,[],[X8 l,.any,.ref 0 0 0,I W,I H,I M,.osl 1 (M+1) 2 0 (M+1),.any,.any,x9,x10,x11,x12,x13,x14,.any,x16,x17,x18,.any],[],[.row 0 79 (Xq (J7 ++ (J7 ++ Z1))),.row (M+1) ((M+1)*2) (XB KH 2 (0,0) (Jy l W H M))] ++ r⟩
theorem On (l:List Int) (W H M i:Nat):KX l W H M (i+1)=KX l W H M i ++ [QD l W H M (M - i)]:=by
 unfold KX; rw [L6,List.append_assoc]
theorem Hm (l:List Int) (W H M i:Nat):(KX l W H M i).length=3+i:=by simp [KX]; omega
theorem RO (a b:PV) (f:FV):∀ x∈iY a b f,Settled x:=fun x h=>by
 unfold iY at h
 rw [List.mem_append,List.mem_append] at h
 rcases h with h | h | h
 ·exact XF a x h
 ·exact XF b x h
 ·exact Qt f x h
theorem rn (m v n:Nat) (L:List (Int×Int)):XI m (.row v n (XB KH 2 (0,0) L))=True:=eq_true fun j _=>X6 (Xg (Kj _) _)
theorem RU (f:Nat→AV) (t:Bool):Settled (.sl 0 0 f t):=JD fun j hj=>absurd hj (Nat.not_lt_zero j)
theorem sM (m v n:Nat):XI m (.row v n (Xq (J7 ++ (J7 ++ Z1))))=True:=eq_true fun j _=>X6 (Xg (l:=J7 ++ (J7 ++ Z1)) (by simp [J7,Z1,XT,X9,X3,RU]) _)
theorem Lb (l:List Int) (hl:Fh l) (W H M:Nat) (hW:(4:Int)+Ab.atF l 0 4=W) (hH:(3:Int)+Ab.atF l 1 4=H) (hM:(1:Int)+Ab.atF l 2 3=M) (A' B':PV) (F':FV)
  (hr:¬ (XN (Xz (J1 l W H M))∧XN (Xz (Jm l W H M)))→Fn Tryz.prog 28 [X8 (HE l W H)] (.agg (iY A' B' F'))) :
  ∃ A B F,Fn Tryz.prog 28 [X8 l] (.agg (iY A B F))∧(((XN (Xz (J1 l W H M))∧XN (Xz (Jm l W H M)))∧A=Zg (J1 l W H M) l 10∧B=Zg (ZY l W H M) l 20∧F=HV l M) ∨
   (¬ (XN (Xz (J1 l W H M))∧XN (Xz (Jm l W H M)))∧A=A'∧B=B'∧F=F')):=by
 obtain ⟨A,B,F,hABF⟩:∃ A B F,(((XN (Xz (J1 l W H M))∧XN (Xz (Jm l W H M)))∧A=Zg (J1 l W H M) l 10∧B=Zg (ZY l W H M) l 20∧F=HV l M) ∨
   (¬ (XN (Xz (J1 l W H M))∧XN (Xz (Jm l W H M)))∧A=A'∧B=B'∧F=F')):=by
  by_cases h:XN (Xz (J1 l W H M))∧XN (Xz (Jm l W H M))
  ·exact ⟨_,_,_,.inl ⟨h,rfl,rfl,rfl⟩⟩
  ·exact ⟨_,_,_,.inr ⟨h,rfl,rfl,rfl⟩⟩
 refine ⟨A,B,F,?_,hABF⟩
 obtain ⟨R,hR⟩:∃ R,R=AV.agg (iY A B F):=⟨_,rfl⟩
 have sR:Settled R:=hR▸Qd (RO A B F)
 rw [← hR]
 have b0:=XY l 0 4 (by omega)
 have b1:=XY l 1 4 (by omega)
 have b2:=XY l 2 3 (by omega)
 have c0:=JF l 0 4 hl (by omega)
 have c1:=JF l 1 4 hl (by omega)
 have c2:=JF l 2 3 hl (by omega)
 refine Fq Tryz.call28 Tryz.func28 20 [] [37,380000013,380000017] [] (by simp [X7]) (X1 1000 ?_)
 simp (disch:=omega) only [AS.start,X4,↓Xt,wD,↓X2,wA,seval,wE]
 refine X0 c0 rfl ?_
 simp (disch:=omega) only [X4,hW,↓Xt,wD,↓X2,wA,seval,wE]
 refine X0 c1 rfl ?_
 simp (disch:=omega) only [X4,hH,↓Xt,wD,↓X2,wA,seval,wE]
 refine X0 c2 rfl ?_
 simp (disch:=omega) only [X4,hM,↓Xt,wD,↓X2,wA,seval,wE]
 refine Xe (fun k:Nat=>⟨20,[],[X8 l,.any,.ref 0 0 0,I W,I H,I M,.osl 1 k 2 0 k,I k,.any,.any,.any,.any,.any,.any,.any,.any,.any,.any,.any,.any],[],[.row 0 79 (Xq (J7 ++ (J7 ++ Z1))),.row k (k*2) (XB KH 2 (0,0) ((Jy l W H M).take k))]⟩) (fun k=>k≤M+1) (fun k=>M+1 - k) 0 (by omega)
  (Sub.trans (Q7 6 2 (XB KH 2 (0,0) []) rfl) (Xa rfl (by simp [AS.put,Xh,X4,I]) (by simp [AS.put,Xi]) (by simp [AS.put,J7,Z1,XT,I]))) ?_
 intro k hk next
 by_cases hk2:k<M+1
 ·have c3:=JF l (3+k:Nat) ((W:Int) - 1) hl (by omega)
  have b3:=XY l (3+k:Nat) ((W:Int) - 1) (by omega)
  have htk:(Jy l W H M).take (k+1)=(Jy l W H M).take k ++ [QD l W H M k]:=by rw [QH _ (0,0) k (by simp [Jy]; omega),Ph _ _ _ _ _ (by omega)]
  have nx:=next (k+1)
  rw [htk] at nx
  have hcl:((Jy l W H M).take k).length=k:=by simp [Jy]; omega
  have hcp:QD l W H M k=(1+Ab.atF l (3+k:Nat) ((W:Int) - 1),if k=M then (H:Int) else k):=rfl
  rw [hcp] at nx
  generalize Ab.atF l (3+k:Nat) ((W:Int) - 1)=x at *
  rw [Int.natCast_add] at c3
  change Fn _ _ [X8 l,I ((3:Int)+k),_] _ at c3
  generalize (Jy l W H M).take k=C at *
  by_cases he:k=M
  ·rw [if_pos he] at nx
   have hap:=XQ KH 2 (0,0) C (1+x,(H:Int)) (by omega)
   rw [hcl] at hap
   refine X1 1000 ?_
   simp (disch:=omega) only [X4,↓Xt,wD,↓X2,wA,seval,wE]
   refine X0 c3 rfl ?_
   simp (disch:=omega) only [X4,↓Xt,wD,↓X2,wA,seval,wE]
   exact ⟨E7 (1+x,(H:Int)),nx _ (by omega) (by omega) (Xa rfl (by simp [Xh,X4,I]) (by simp [Xi]) (by rw [← hap]; simp [KH,I]))⟩
  ·rw [if_neg he] at nx
   have hap:=XQ KH 2 (0,0) C (1+x,(k:Int)) (by omega)
   rw [hcl] at hap
   refine X1 1000 ?_
   simp (disch:=omega) only [X4,↓Xt,wD,↓X2,wA,seval,wE]
   refine X0 c3 rfl ?_
   simp (disch:=omega) only [X4,↓Xt,wD,↓X2,wA,seval,wE]
   exact ⟨E7 (1+x,(k:Int)),nx _ (by omega) (by omega) (Xa rfl (by simp [Xh,X4,I]) (by simp [Xi]) (by rw [← hap]; simp [KH,I]))⟩
 obtain rfl:k=M+1:=by omega
 have htk:(Jy l W H M).take (M+1)=Jy l W H M:=List.take_of_length_le (by simp [Jy])
 rw [htk]
 have hCl:(Jy l W H M).length=M+1:=by simp [Jy]
 have hq:∀ k,k≤M→XB KH 2 (0,0) (Jy l W H M) (k*2)=I (QD l W H M k).1∧XB KH 2 (0,0) (Jy l W H M) (k*2+1)=I (QD l W H M k).2:=fun k hk=>by
  rw [A1 KH 2 (0,0) (Jy l W H M) k (by omega),A0 KH 2 (0,0) (Jy l W H M) k 1 (by omega),Ph _ _ _ _ _ hk]
  exact ⟨rfl,rfl⟩
 have q0:XB KH 2 (0,0) (Jy l W H M) 0=I (QD l W H M 0).1:=(hq 0 (by omega)).1
 have q1:XB KH 2 (0,0) (Jy l W H M) 1=I (QD l W H M 0).2:=(hq 0 (by omega)).2
 have hF:J1 l W H M=(0,0) :: Jy l W H M ++ [(0,(H:Int))]:=rfl
 have hfr:=WZ (Jy l W H M) H
 rw [← hF,hCl] at hfr
 have hFl:(J1 l W H M).length=M+3:=by rw [hF]; simp [hCl]
 have hSl:(Jm l W H M).length=M+3:=by unfold Jm; rw [Hm]; omega
 have hcr:=Pi l W H M
 have n1:=IM l W H M (by omega) (by omega) (by omega)
 have n2:=Ho l W H M (by omega) (by omega) (by omega)
 refine X1 1000 ?_
 simp (disch:=omega) only [X4,q0,q1,↓Xt,wD,↓X2,wA,seval,wE]
 refine ⟨fun j _=>RZ _ _ _ _ _ (by omega) fun a=>⟨rfl,by simp [KH,I,AV.one]⟩,E7 (0,(H:Int)),?_⟩
 refine Xe (fun i:Nat=>match i with
  | 0=>Ap l W H M (.osl 2 1 2 0 (M+3)) (.sl 3 6 (Xq [I (QD l W H M 0).1,I (QD l W H M 0).2,I W,I 0,I W,I H]) true) (I M) .any .any .any .any .any .any [.row 1 ((M+3)*2) (XB KH 2 (0,0) (J1 l W H M))]
  | i+1=>Ap l W H M (.osl 2 1 2 0 (M+3)) (.osl 3 i 2 0 (4+i)) (I (M - (i+1):Nat)) .any .any .any .any .any .any [.row 1 ((M+3)*2) (XB KH 2 (0,0) (J1 l W H M)),.row i ((4+i)*2) (XB KH 2 (0,0) (KX l W H M (i+1)))])
  (fun i=>i≤M) (fun i=>M - i) 0 (by omega)
  (Sub.trans (QN 2 ((M+3)*2) (XB KH 2 (0,0) (J1 l W H M)) rfl (by omega) (fun j hj=>hfr j (by omega))) (Xa rfl (by simp [Ap,Xh,X4,I]; omega) (by simp [Xi,Ap]) (by simp [Ap,J7,Z1,XT,I]))) ?_
 intro i hi next
 match i,hi,next with
 | 0,hi,next =>
  have ho:=U4 (QD l W H M 0) ((W:Int),0) ((W:Int),(H:Int)) (QD l W H M M)
  have w1:=(hq M (by omega)).1
  have w2:=(hq M (by omega)).2
  refine X1 1000 ?_
  simp (disch:=omega) only [Ap,X4,List.cons_append,List.nil_append,w1,w2,↓Xt,wD,↓X2,wA,seval,wE]
  exact ⟨E7 (QD l W H M M),next 1 _ (by omega) (by omega) (Sub.trans (QN 3 8 (XB KH 2 (0,0) (KX l W H M 1)) rfl (by omega) (fun j hj=>ho j hj)) (Xa rfl (by simp [Ap,Xh,X4,I]; omega) (by simp [Xi,Ap]) (by simp [Ap])))⟩
 | i+1,hi,next =>
 by_cases hi2:i+1<M
 ·have w1:=(hq (M - (i+1)) (by omega)).1
  have w2:=(hq (M - (i+1)) (by omega)).2
  have hs:=On l W H M (i+1)
  have hap:=XQ KH 2 (0,0) (KX l W H M (i+1)) (QD l W H M (M - (i+1))) (by omega)
  rw [Hm,show 3+(i+1)=4+i by omega] at hap
  refine X1 1000 ?_
  simp (disch:=omega) only [Ap,X4,List.cons_append,List.nil_append,w1,w2,↓Xt,wD,↓X2,wA,seval,wE]
  exact ⟨E7 (QD l W H M (M - (i+1))),next (i+2) _ (by omega) (by omega) (Xa rfl (by simp [Ap,Xh,X4,I]; omega) (by simp [Xi,Ap]) (by rw [← hs] at hap; simp [Ap,← hap,KH,I,show 4+i+1=4+(i+1) by omega]))⟩
 obtain rfl:M=i+1:=by omega
 clear next
 have k1:=LK (J1 l W H (i+1)) n1 (by omega)
 have k2:=LK (Jm l W H (i+1)) (fun c hc=>by have:=n2 c hc; omega) (by omega)
 refine X1 1000 ?_
 simp (disch:=omega) only [Ap,X4,List.cons_append,List.nil_append,↓Xt,wD,↓X2,wA,seval,wE]
 refine JP k1 rfl ⟨?_,trivial⟩ (Bi _) ?_
 ·show JJ _ (.osl 2 1 2 0 (i+1+3)) (C6 (J1 l W H (i+1)))
  rw [Xf,hFl]
  refine Qv (.inl rfl) (by omega) (fun h=>by omega) fun j hj=>?_
  rw [Nat.zero_add]
  exact (Xg (l:=KH ((J1 l W H (i+1)).getD (j / 2) (0,0))) (Kj _) _).sees _
 by_cases p1:XN (Xz (J1 l W H (i+1)))
 rotate_left
 ·have hr2:=hr (fun h=>p1 h.1)
  rcases hABF with ⟨h,_⟩ | ⟨_,rfl,rfl,rfl⟩
  ·exact absurd h.1 p1
  have a3:=JF l 3 ((W:Int) - 1) hl (by omega)
  have a4:=JF l 4 ((W:Int) - 1) hl (by omega)
  have a7:=JF l 7 4 hl (by omega)
  simp (disch:=omega) only [decide_eq_false p1,Ap,X4,List.cons_append,List.nil_append,↓Xt,wD,↓X2,wA,seval,wE]
  refine X0 a3 rfl ?_
  simp (disch:=omega) only [Ap,X4,List.cons_append,List.nil_append,↓Xt,wD,↓X2,wA,seval,wE]
  refine X0 a4 rfl ?_
  simp (disch:=omega) only [Ap,X4,List.cons_append,List.nil_append,↓Xt,wD,↓X2,wA,seval,wE]
  refine X0 a7 rfl ?_
  simp (disch:=omega) only [Ap,X4,List.cons_append,List.nil_append,↓Xt,wD,↓X2,wA,seval,wE]
  refine Qq hr2 ⟨ZJ rfl rfl,trivial⟩ ?_
  simp (disch:=omega) only [iY,XC,Qg,J7,Z1,XT,X4,List.cons_append,List.nil_append,↓Xt,wD,↓X2,wA,seval,wE]
  exact Z7 rfl V1 rfl rfl rfl sR (hR.trans rfl)
 simp (disch:=omega) only [decide_eq_true p1,Ap,X4,List.cons_append,List.nil_append,↓Xt,wD,↓X2,wA,seval,wE]
 refine JP k2 rfl ⟨?_,trivial⟩ (Bi _) ?_
 ·show JJ _ (.osl 3 i 2 0 (4+i)) (C6 (Jm l W H (i+1)))
  rw [Xf,hSl,show i+1+3=4+i by omega]
  refine Qv (.inl rfl) (by omega) (fun h=>by omega) fun j hj=>?_
  rw [Nat.zero_add]
  exact (Xg (l:=KH ((Jm l W H (i+1)).getD (j / 2) (0,0))) (Kj _) _).sees _
 by_cases p2:XN (Xz (Jm l W H (i+1)))
 rotate_left
 ·have hr2:=hr (fun h=>p2 h.2)
  rcases hABF with ⟨h,_⟩ | ⟨_,rfl,rfl,rfl⟩
  ·exact absurd h.2 p2
  have a3:=JF l 3 ((W:Int) - 1) hl (by omega)
  have a4:=JF l 4 ((W:Int) - 1) hl (by omega)
  have a7:=JF l 7 4 hl (by omega)
  simp (disch:=omega) only [decide_eq_false p2,Ap,X4,List.cons_append,List.nil_append,↓Xt,wD,↓X2,wA,seval,wE]
  refine X0 a3 rfl ?_
  simp (disch:=omega) only [Ap,X4,List.cons_append,List.nil_append,↓Xt,wD,↓X2,wA,seval,wE]
  refine X0 a4 rfl ?_
  simp (disch:=omega) only [Ap,X4,List.cons_append,List.nil_append,↓Xt,wD,↓X2,wA,seval,wE]
  refine X0 a7 rfl ?_
  simp (disch:=omega) only [Ap,X4,List.cons_append,List.nil_append,↓Xt,wD,↓X2,wA,seval,wE]
  refine Qq hr2 ⟨ZJ rfl rfl,trivial⟩ ?_
  simp (disch:=omega) only [iY,XC,Qg,J7,Z1,XT,X4,List.cons_append,List.nil_append,↓Xt,wD,↓X2,wA,seval,wE]
  exact Z7 rfl V1 rfl rfl rfl sR (hR.trans rfl)
 clear hr
 rcases hABF with ⟨_,rfl,rfl,rfl⟩ | ⟨h,_⟩
 rotate_left
 ·exact absurd ⟨p1,p2⟩ h
 have a7:=JF l 7 4 hl (by omega)
 have a8:=JF l 8 9 hl (by omega)
 have a9:=JF l 9 9 hl (by omega)
 have b7:=XY l 7 4 (by omega)
 have b8:=XY l 8 9 (by omega)
 have b9:=XY l 9 9 (by omega)
 have e7:Ab.atF l 7 4=(YF l:Int):=by unfold YF; omega
 have hD:P7 l=(Ab.atF l 8 9 - 4,Ab.atF l 9 9 - 4):=rfl
 simp (disch:=omega) only [decide_eq_true p2,Ap,X4,List.cons_append,List.nil_append,↓Xt,wD,↓X2,wA,seval,wE]
 refine X0 a7 rfl ?_
 simp (disch:=omega) only [e7,Ap,X4,List.cons_append,List.nil_append,↓Xt,wD,↓X2,wA,seval,wE]
 refine X0 a8 rfl ?_
 simp (disch:=omega) only [Ap,X4,List.cons_append,List.nil_append,↓Xt,wD,↓X2,wA,seval,wE]
 refine X0 a9 rfl ?_
 simp (disch:=omega) only [Ap,X4,List.cons_append,List.nil_append,↓Xt,wD,↓X2,wA,seval,wE]
 have hSN:KX l W H (i+1) (i+1)=Jm l W H (i+1):=rfl
 rw [← hSN] at hSl n2
 have hST:ZY l W H (i+1)=(KX l W H (i+1) (i+1)).map (pZ (YF l) (P7 l)):=rfl
 have n3:=Hu l W H (i+1) (by omega) (by omega) (by omega)
 have hTl:(ZY l W H (i+1)).length=4+i:=by rw [hST,List.length_map,hSl]; omega
 have q4:YF l≤3:=by omega
 generalize KX l W H (i+1) (i+1)=S at *
 have bD:(-4≤(P7 l).1∧(P7 l).1≤4)∧-4≤(P7 l).2∧(P7 l).2≤4:=by rw [hD]; omega
 have hAt:Dw l=v0.sub (Lv (Dx l) (Js (P7 l))):=rfl
 have hT:Dx l=Kp ((4 - YF l) % 4) KG:=rfl
 have hPF:HV l (i+1)=⟨0,1,1,(i+1+2:Nat),(i+1:Nat),Dx l,Dw l,Dw l⟩:=rfl
 have hps:=Lc l
 rw [hPF] at hR
 have m1:=V4 (J1 l W H (i+1)) l 10 (by omega) hl (by omega)
 have m2:=V4 (ZY l W H (i+1)) l 20 (by omega) hl (by omega)
 generalize Zg (J1 l W H (i+1)) l 10=A at *
 generalize Zg (ZY l W H (i+1)) l 20=B at *
 generalize J1 l W H (i+1)=FL at *
 generalize Dw l=at' at *
 generalize P7 l=D at *
 obtain ⟨D1,D2⟩:=D
 rw [Prod.mk.injEq] at hD
 obtain ⟨rfl,rfl⟩:=hD
 generalize YF l=q at *
 generalize Dx l=T at *
 generalize Ab.atF l 8 9 - 4=D1 at *
 generalize Ab.atF l 9 9 - 4=D2 at *
 simp only at bD
 generalize hg:pZ q (D1,D2)=g at *
 refine Xe (fun k:Nat=>Ap l W H (i+1) (.osl 2 1 2 0 (i+1+3)) (.osl 3 i 2 0 (4+i)) .any (I q) (.ref 4 0 0) (I k) .any .any .any [.row 1 ((i+1+3)*2) (XB KH 2 (0,0) FL),.row i ((4+i)*2) (XB KH 2 (0,0) (FB g S k)),.row 0 2 (Xq [I D1,I D2])])
  (fun k=>k≤4+i) (fun k=>4+i - k) 0 (by omega)
  (Xa rfl (by simp [Ap,Xh,X4,I]) (by simp [Xi,Ap]) (by simp [Ap,FB,I])) ?_
 intro k hk next
 by_cases hk2:k<4+i
 ·have hp:=n2 (S.getD k (0,0)) (Kb (by omega))
  have hb:=Ge (S.getD k (0,0)) 7 (by omega) (by omega) q
  have c:=ac (S.getD k (0,0)) q (by omega) (by omega) (by omega)
  have u0:XB KH 2 (0,0) (FB g S k) (k*2)=I (S.getD k (0,0)).1:=by rw [A1 _ _ _ _ _ (by omega),V6 g S k (by omega)]; rfl
  have u1:XB KH 2 (0,0) (FB g S k) (k*2+1)=I (S.getD k (0,0)).2:=by rw [A0 _ _ _ _ _ _ (by omega),V6 g S k (by omega)]; rfl
  have hs:=sd (FB g S k) k (g (S.getD k (0,0))) (by rw [fE g S k (by omega)]; omega)
  rw [fG g S k (by omega)] at hs
  have hgk:g (S.getD k (0,0))=((KT q (S.getD k (0,0))).1+D1,(KT q (S.getD k (0,0))).2+D2):=by rw [← hg]; rfl
  rw [hgk] at hs
  generalize S.getD k (0,0)=p at *
  generalize KT q p=w at *
  refine X1 1000 ?_
  simp (disch:=omega) only [Ap,X4,KH,List.cons_append,List.nil_append,u0,u1,↓Xt,wD,↓X2,wA,seval,wE]
  refine X0 c rfl ?_
  simp (disch:=omega) only [Ap,X4,KH,List.cons_append,List.nil_append,↓Xt,wD,↓X2,wA,seval,wE]
  exact next (k+1) _ (by omega) (by omega) (Xy (m:=5) (Nat.zero_le _) rfl (by simp [Ap,Xh,X4,I]) (by simp [Xi,Ap]) (by simp [Ap,← hs,KH,I]) (by simp [Ap,Xx]) (by simp [Ap,Xx]) (by simp [Ap,rn,sM,Xx]))
 obtain rfl:k=4+i:=by omega
 have hm:FB g S (4+i)=ZY l W H (i+1):=by
  rw [hST]; unfold FB; rw [List.take_of_length_le (by omega),List.drop_eq_nil_of_le (by omega),List.append_nil]
 rw [hm]
 clear next
 generalize ZY l W H (i+1)=ST at *
 refine Run.sub (s':=Ap l W H (i+1) (C6 FL) (C6 ST) .any (I q) (.ref 4 0 0) (I (4+i:Nat)) .any .any .any [.con 1 ((i+1+3)*2) (XB KH 2 (0,0) FL),.con i ((4+i)*2) (XB KH 2 (0,0) ST),.row 0 2 (Xq [I D1,I D2])]) ?_
  (Sub.trans (Qp 2 rfl) (Sub.trans (Sa 9 (M:=(i+1+3)*2) rfl rfl (by omega) (fun h=>by omega)) (Sub.trans (Qp 3 rfl) (Sub.trans (Sa 10 (M:=(4+i)*2) rfl rfl (by omega) (fun h=>by omega)) (Xa rfl (by simp [AS.put,Ap,Xh,Xf,X4,hFl,hTl,I]) (by simp [AS.put,Xi,Ap]) (by simp [AS.put,Ap]))))))
 have o1:=Jk 1 1 ⟨by omega,by omega⟩ ⟨by omega,by omega⟩
 have v1:Rat.divInt 1 1=1:=by decide +kernel
 rw [v1] at o1
 have hrem:((4:Int) - q).tmod 4=((4 - q) % 4:Nat):=by rw [Int.tmod_eq_emod_of_nonneg (by omega)]; omega
 refine X1 1000 ?_
 simp (disch:=omega) only [Ap,X4,List.cons_append,List.nil_append,↓Xt,wD,↓X2,wA,seval,wE]
 refine X0 m1 rfl ?_
 simp (disch:=omega) only [Ap,X4,List.cons_append,List.nil_append,↓Xt,wD,↓X2,wA,seval,wE]
 refine X0 m2 rfl ?_
 simp (disch:=omega) only [Ap,X4,Q3,XC,J7,Z1,XT,List.cons_append,List.nil_append,↓Xt,wD,↓X2,wA,seval,wE]
 refine X0 o1 rfl ?_
 simp (disch:=omega) only [X4,Xf,↓Xt,wD,↓X2,wA,seval,wE]
 have wst:WeakL [.bool (sg 1),X8 (Xb (Rat.num 1).natAbs),.bool false,X8 (Xb (qd 1)),.bool false,.sl 0 0 (fun _=>.any) false,.bool false,.sl 0 0 (fun _=>.any) false] (vC KG):=by
  obtain ⟨w1,w2,w3,w4,w5,w6,w7,w8,_⟩:=Z0
  exact ⟨Weak.rfl' _,Weak.rfl' _,Weak.rfl' _,Weak.rfl' _,w5,w6,w7,w8,trivial⟩
 refine Xe (fun j:Nat=>Ap l W H (i+1) .any .any .any (I q) (.ref 4 0 0) .any (.ref 5 0 0) (.ref 6 0 0) (I j) [.con 1 ((i+1+3)*2) (XB KH 2 (0,0) FL),.con i ((4+i)*2) (XB KH 2 (0,0) ST),.row 0 2 (Xq [I D1,I D2]),.row 0 79 (Xq (XC A ++ (XC B ++ DN))),.row 0 8 (Xq (vC (Kp j KG)))])
  (fun j=>j≤(4 - q) % 4) (fun j=>(4 - q) % 4 - j) 0 (by omega)
  (Sub.trans (S9 6 (vC KG) rfl rfl wst) (Xa rfl (by simp [Ap,Xh,X4,I]) (by simp [Xi,Ap]) (by simp [Ap,J7,Z1,XT,DN,Ae,XC,Xf,Xl,X4,Kp,I]))) ?_
 intro j hj next
 have hvq:vb (Kp j KG)≤10:=by rw [GR]; exact DL
 have hqs:Kp (j+1) KG=B6 (Kp j KG):=rfl
 by_cases hj2:j<(4 - q) % 4
 ·have nx:=next (j+1)
  rw [hqs] at nx
  generalize Kp j KG=V at *
  have q1:=Qr V
  have c:=Zu V.y (by unfold rm; omega)
  refine X1 1000 ?_
  simp (disch:=omega) only [Ap,X4,vC,hrem,List.cons_append,List.nil_append,↓Xt,wD,↓X2,wA,seval,wE]
  refine X0 c rfl ?_
  simp (disch:=omega) only [X4,↓Xt,wD,↓X2,wA,seval,wE]
  have hV:vC (B6 V)=[.bool (sg (-V.y)),X8 (Xb (-V.y).num.natAbs),.bool false,X8 (Xb (qd (-V.y))),.bool (sg V.x),X8 (Xb V.x.num.natAbs),.bool false,X8 (Xb (qd V.x))]:=rfl
  exact nx _ (by omega) (by omega) (Xa rfl (by simp [Ap,Xh,X4,I]) (by simp [Xi,Ap]) (by simp [Ap,J7,Z1,XT,DN,Ae,XC,Xf,Xl,X4,hV,I]))
 obtain rfl:j=(4 - q) % 4:=by omega
 rw [← hT] at hvq ⊢
 clear next
 have c1:=An D1 D2 ⟨by omega,by omega⟩ ⟨by omega,by omega⟩
 have hpv:(⟨(D1:Rat),(D2:Rat)⟩:V2)=Js (D1,D2):=rfl
 rw [hpv] at c1
 have vq:vb (Js (D1,D2))≤3:=by
  have q1:=Zt D1 3 (by omega) (QM ⟨by omega,by omega⟩)
  have q2:=Zt D2 3 (by omega) (QM ⟨by omega,by omega⟩)
  unfold vb Js
  simp only
  omega
 have c2:=C7 T (Js (D1,D2)) (by unfold vm; omega) (by unfold vm; omega)
 have vr:=CY T (Js (D1,D2))
 have vz:=Ez
 have c3:=JB v0 (Lv T (Js (D1,D2))) (by unfold rm; omega) (by unfold rm; omega)
 rw [← hAt] at c3
 refine X1 1000 ?_
 simp (disch:=omega) only [Ap,X4,vC,hrem,List.cons_append,List.nil_append,↓Xt,wD,↓X2,wA,seval,wE]
 refine X0 c1 rfl ?_
 simp (disch:=omega) only [X4,vA,vC,↓Xt,wD,↓X2,wA,seval,wE]
 refine X0 c2 rfl ?_
 simp (disch:=omega) only [X4,vA,vC,↓Xt,wD,↓X2,wA,seval,wE]
 refine Qq c3 ⟨XS (LR _),Weak.rfl' _,trivial⟩ ?_
 simp (disch:=omega) only [X4,vA,vC,XC,DN,Ae,J7,Z1,XT,List.cons_append,List.nil_append,↓Xt,wD,↓X2,wA,seval,wE]
 exact Z7 rfl V1 rfl rfl rfl sR (hR.trans rfl)
theorem T4 (k m:Int) (h:0≤k∧k<m):QW k m=k:=by
 unfold QW
 rw [if_neg (by omega),Int.tmod_eq_emod_of_nonneg h.1,Int.emod_eq_of_lt h.1 h.2]
theorem Fj (L:List Int) (j:Nat) (m:Int) (h:j<L.length) (hb:0≤L.getD j 0∧L.getD j 0<m):Ab.atF L (j:Nat) m=L.getD j 0:=by
 unfold Ab.atF
 rw [if_neg (by omega),Int.toNat_natCast,T4 _ _ hb]
theorem pL (l:List Int) (W H:Nat) (hW:4≤W∧W≤7) (hH:3≤H∧H≤6):Fh (HE l W H):=fun x hx=>by
 have b3:=XY l 3 ((W:Int) - 1) (by omega)
 have b4:=XY l 4 ((W:Int) - 1) (by omega)
 have b7:=XY l 7 4 (by omega)
 simp only [HE,List.mem_cons,List.not_mem_nil,or_false] at hx
 rcases hx with rfl | rfl | rfl | rfl | rfl | rfl | rfl | rfl <;> exact ⟨by omega,by omega⟩
theorem fZ (l:List Int) (hl:Fh l):∃ (L:List Int) (W H M:Nat),Fh L∧(4≤W∧W≤7)∧(3≤H∧H≤6)∧(1≤M∧M≤3)∧XN (Xz (J1 L W H M))∧XN (Xz (Jm L W H M)) ∧
  Fn Tryz.prog 28 [X8 l] (.agg (iY (Zg (J1 L W H M) L 10) (Zg (ZY L W H M) L 20) (HV L M))):=by
 have b0:=XY l 0 4 (by omega)
 have b1:=XY l 1 4 (by omega)
 have b2:=XY l 2 3 (by omega)
 obtain ⟨W,hW⟩:∃ W:Nat,(4:Int)+Ab.atF l 0 4=W:=⟨(4+Ab.atF l 0 4).toNat,by omega⟩
 obtain ⟨H,hH⟩:∃ H:Nat,(3:Int)+Ab.atF l 1 4=H:=⟨(3+Ab.atF l 1 4).toNat,by omega⟩
 obtain ⟨M,hM⟩:∃ M:Nat,(1:Int)+Ab.atF l 2 3=M:=⟨(1+Ab.atF l 2 3).toNat,by omega⟩
 by_cases hv:XN (Xz (J1 l W H M))∧XN (Xz (Jm l W H M))
 ·obtain ⟨A,B,F,hf,h⟩:=Lb l hl W H M hW hH hM (Zg [] [] 0) (Zg [] [] 0) D9 (fun h=>absurd hv h)
  rcases h with ⟨_,rfl,rfl,rfl⟩ | ⟨h,_⟩
  ·exact ⟨l,W,H,M,hl,by omega,by omega,by omega,hv.1,hv.2,hf⟩
  ·exact absurd hv h
 have b3:=XY l 3 ((W:Int) - 1) (by omega)
 have b4:=XY l 4 ((W:Int) - 1) (by omega)
 have b7:=XY l 7 4 (by omega)
 have hl2:=pL l W H (by omega) (by omega)
 have a0:Ab.atF (HE l W H) 0 4=(W:Int) - 4:=Fj _ 0 _ (by simp [HE]) (by show 0≤(W:Int) - 4∧(W:Int) - 4<4; omega)
 have a1:Ab.atF (HE l W H) 1 4=(H:Int) - 3:=Fj _ 1 _ (by simp [HE]) (by show 0≤(H:Int) - 3∧(H:Int) - 3<4; omega)
 have a2:Ab.atF (HE l W H) 2 3=0:=Fj _ 2 _ (by simp [HE]) (by show 0≤(0:Int)∧(0:Int)<3; omega)
 have a3:Ab.atF (HE l W H) 3 ((W:Int) - 1)=Ab.atF l 3 ((W:Int) - 1):=Fj _ 3 _ (by simp [HE]) b3
 have a4:Ab.atF (HE l W H) 4 ((W:Int) - 1)=Ab.atF l 4 ((W:Int) - 1):=Fj _ 4 _ (by simp [HE]) b4
 have c0:QD (HE l W H) W H 1 0=(1+Ab.atF l 3 ((W:Int) - 1),0):=by
  unfold QD; rw [if_neg (by omega)]; exact congrArg (fun z:Int=>((1:Int)+z,(0:Int))) a3
 have c1:QD (HE l W H) W H 1 1=(1+Ab.atF l 4 ((W:Int) - 1),(H:Int)):=by
  unfold QD; rw [if_pos rfl]; exact congrArg (fun z:Int=>((1:Int)+z,(H:Int))) a4
 have p1:XN (Xz (J1 (HE l W H) W H 1)):=by
  have e:J1 (HE l W H) W H 1=gt (1+Ab.atF l 3 ((W:Int) - 1)) (1+Ab.atF l 4 ((W:Int) - 1)) H:=by
   show (0,0) :: [QD (HE l W H) W H 1 0,QD (HE l W H) W H 1 1] ++ [(0,(H:Int))]=_
   rw [c0,c1]; rfl
  rw [e]
  exact gu _ _ _ (by omega) (by omega) (by omega)
 have p2:XN (Xz (Jm (HE l W H) W H 1)):=by
  have e:Jm (HE l W H) W H 1=gv W (1+Ab.atF l 3 ((W:Int) - 1)) (1+Ab.atF l 4 ((W:Int) - 1)) H:=by
   show [QD (HE l W H) W H 1 0,((W:Int),0),((W:Int),(H:Int))] ++ [QD (HE l W H) W H 1 1]=_
   rw [c0,c1]; rfl
  rw [e]
  exact gw _ _ _ _ (by omega) (by omega) (by omega) (by omega)
 obtain ⟨A,B,F,hf,h⟩:=Lb (HE l W H) hl2 W H 1 (by rw [a0]; omega) (by rw [a1]; omega) (by rw [a2]; rfl) (Zg [] [] 0) (Zg [] [] 0) D9 (fun h=>absurd ⟨p1,p2⟩ h)
 rcases h with ⟨_,rfl,rfl,rfl⟩ | ⟨h,_⟩
 rotate_left
 ·exact absurd ⟨p1,p2⟩ h
 obtain ⟨A,B,F,hf2,h⟩:=Lb l hl W H M hW hH hM _ _ _ (fun _=>hf)
 rcases h with ⟨h,_⟩ | ⟨_,rfl,rfl,rfl⟩
 ·exact absurd h hv
 ·exact ⟨HE l W H,W,H,1,hl2,by omega,by omega,by omega,p1,p2,hf2⟩
theorem md (l:List Int) (hl:Fh l):∃ (A B:PV) (F:FV) (ta tb:Rat),Fn Tryz.prog 28 [X8 l] (.agg (iY A B F))∧GP A ta∧GP B tb∧A.small∧B.small∧qb ta≤3∧qb tb≤3∧vb F.turn≤10∧vb F.lo≤100∧vb F.hi≤100:=by
 obtain ⟨L,W,H,M,hL,hW,hH,hM,p1,p2,hf⟩:=fZ l hl
 have g1:=V5 (J1 L W H M) L 10 (IM L W H M hW (by omega) (by omega)) p1
 have g2:=V5 (ZY L W H M) L 20 (Hu L W H M hW (by omega) (by omega)) (mh _ _ _ p2)
 have hs:=Lc L
 exact ⟨_,_,_,_,_,hf,g1.1,g2.1,g1.2.1,g2.2.1,g1.2.2,g2.2.2,hs.1,hs.2,hs.2⟩
structure GPS (p:PV):Prop where
 gp:∃ t,GP p t
 sm:p.small
theorem S6 (a b c d:PV) (f:FV) (e e':Rat):Qy a b (Qy c d f e) e'=Qy a b f e':=rfl
theorem Pa (l:List Int) (which n m k:Int) (hl:Fh l) (hl2:l.length<9223372036854775808) (hw:Z4 which) (hn:Z4 n) (hm:Z4 m) (hk:Z4 k) :
  Fn Tryz.prog 4 [X8 l,I which,I n,I m,I k] (.bool true):=by
 obtain ⟨A,B,F,ta,tb,cP,gA,gB,sA,sB,qa,qb',hF1,hF2,hF3⟩:=md l hl
 have cF:=TV A B gA gB
 have hfin:∀ f∈ME A B (ta+tb),vb f.turn≤26∧vb f.lo≤200∧vb f.hi≤200:=fun f hf=>(PD gA gB (List.mem_filter.1 hf).1).2
 have hok:∀ f∈ME A B (ta+tb),Kl A B f (ta+tb)=0:=fun f hf=>Pe (List.mem_filter.1 hf).1 (by have:=gA.poly.1; simp [Xz] at this; omega) (by have:=gB.poly.1; simp [Xz] at this; omega)
 have hlen:(ME A B (ta+tb)).length≤24000:=Nat.le_trans (List.length_filter_le _ _) (OP A B (ta+tb) (by have:=gA.poly.1; simp [Xz] at this; omega) (by have:=gB.poly.1; simp [Xz] at this; omega) (by have:=gA.poly.1; simp [Xz] at this; omega) (by have:=gB.poly.1; simp [Xz] at this; omega))
 generalize ME A B (ta+tb)=L at *
 obtain ⟨k1,gC,sC,aC,lC,qC'⟩:=Gs gA sA (by omega) n hn
 have tC:=DJ n
 have lD0:Zz A (ZQ (ZQ A ta n) (ta+Gd n) m)=A:=by
  have:=gA.tol
  unfold Zz ZQ ZP
  cases A; rfl
 have lDC:Zz (ZQ (ZQ A ta n) (ta+Gd n) m) (ZQ A ta n)=ZQ (ZQ A ta n) (ta+Gd n) m:=rfl
 generalize ZQ A ta n=C at *
 obtain ⟨tc,htc⟩:∃ tc,tc=ta+Gd n:=⟨_,rfl⟩
 rw [← htc] at gC qC' lD0 lDC
 have leC:ta≤tc:=by rw [htc]; exact Dp tC
 clear htc
 obtain ⟨k2,gD,sD,aD,lD,qD⟩:=Gs gC sC (by omega) m hm
 have tD:=DJ m
 generalize ZQ C tc m=D at *
 obtain ⟨td,htd⟩:∃ td,td=tc+Gd m:=⟨_,rfl⟩
 rw [← htd] at gD qD
 have leD:tc≤td:=by rw [htd]; exact Dp tD
 clear htd
 obtain ⟨k3,gE,sE,aE,lE,qE⟩:=Gs gB sB (by omega) k hk
 have tE:=DJ k
 generalize ZQ B tb k=E at *
 obtain ⟨te,hte⟩:∃ te,te=tb+Gd k:=⟨_,rfl⟩
 rw [← hte] at gE qE
 have leE:tb≤te:=by rw [hte]; exact Dp tE
 clear hte
 have i1:=Fy A C sA sC gA.tol gC.tol
 rw [decide_eq_true ⟨lC.symm,leC⟩] at i1
 have i2:=Fy C D sC sD gC.tol gD.tol
 rw [decide_eq_true ⟨lD.symm,leD⟩] at i2
 have i3:=Fy A D sA sD gA.tol gD.tol
 rw [decide_eq_true ⟨lD0.symm,Rat.le_trans leC leD⟩] at i3
 have i4:=Fy D C sD sC gD.tol gC.tol
 have i5:=Lw C.tol D.tol (by have:=sC.tol; omega) (by have:=sD.tol; omega)
 have hW:decide (D=Zz D C∧td≤tc)=decide (C.tol=D.tol):=by
  refine decide_eq_decide.2 ⟨fun h=>?_,fun h=>⟨lDC.symm,?_⟩⟩
  ·rw [gC.tol,gD.tol,Rat.le_antisymm leD h.2]
  ·rw [gC.tol,gD.tol] at h
   rw [RQ.of_inj h]; exact Rat.le_refl
 rw [hW] at i4
 generalize decide (C.tol=D.tol)=W at *
 have fW3:(W != W)=false:=by simp
 refine Fq Tryz.call4 Tryz.func4 23 [] [4,50000011,50000012,50000013] [] (by simp [X9,X7]) (X1 1000 ?_)
 simp (disch:=omega) only [AS.start,↓Xt,wD,↓X2,wA,seval,wE]
 refine X0 cP rfl ?_
 simp (disch:=omega) only [iY,XC,Qg,List.cons_append,List.nil_append,↓Xt,wD,↓X2,wA,seval,wE]
 refine X0 k1 rfl ?_
 simp (disch:=omega) only [Q3,XC,↓Xt,wD,↓X2,wA,seval,wE]
 refine X0 k2 rfl ?_
 simp (disch:=omega) only [Q3,XC,↓Xt,wD,↓X2,wA,seval,wE]
 refine X0 i1 rfl ?_
 simp (disch:=omega) only [Q3,XC,↓Xt,wD,↓X2,wA,seval,wE]
 refine X0 i2 rfl ?_
 simp (disch:=omega) only [Q3,XC,↓Xt,wD,↓X2,wA,seval,wE]
 refine X0 i3 rfl ?_
 simp (disch:=omega) only [Q3,XC,↓Xt,wD,↓X2,wA,seval,wE]
 refine X0 i4 rfl ?_
 simp (disch:=omega) only [Q3,XC,↓Xt,wD,↓X2,wA,seval,wE]
 refine X0 i5 rfl ?_
 simp (disch:=omega) only [fW3,Q3,XC,↓Xt,wD,↓X2,wA,seval,wE]
 refine X0 k3 rfl ?_
 simp (disch:=omega) only [Q3,XC,↓Xt,wD,↓X2,wA,seval,wE]
 refine X0 cF rfl ?_
 by_cases hL:L.length=0
 ·simp (disch:=omega) only [JH,hL,XC,Qg,↓Xt,wD,↓X2,wA,seval,wE]
  refine X0 PW rfl ?_
  simp (disch:=omega) only [↓Xt,wD,↓X2,wA,seval,wE]
  exact Xs rfl rfl (X3 _) rfl
 have ca:=AD which L.length hw (by omega)
 have ba:=Zc which L.length (by omega)
 obtain ⟨x,hx⟩:∃ x:Nat,QW which L.length=x:=⟨(QW which L.length).toNat,by omega⟩
 rw [hx] at ca ba
 have hmem:L.getD x D9∈L:=Kb (by omega)
 have h0:=hfin _ hmem
 have hc:=hok _ hmem
 have v1:=fF L x
 have v2:=sV L x
 generalize L.getD x D9=f at *
 have ff:f.fine:=⟨by omega,by omega,by omega⟩
 obtain ⟨z1,_⟩:=EX A B f D E gA gB gD gE sA sB sD sE ff
 rw [L3 hc ⟨lD0.symm,Rat.le_trans leC leD⟩ ⟨lE.symm,leE⟩] at z1
 obtain ⟨z2,_⟩:=EX A B f C B gA gB gC gB sA sB sC sB ff
 rw [L3 hc ⟨lC.symm,leC⟩ ⟨rfl,Rat.le_refl⟩] at z2
 have fg:(Qy C B f (tc+tb)).fine:=LF gC gB ff
 have hc2:Kl C B (Qy C B f (tc+tb)) (tc+tb)=0:=by
  rw [Pd aC (Ig B),S5 aC (Ig B)]
  exact Ti hc (by grind)
 obtain ⟨z3,_⟩:=EX C B (Qy C B f (tc+tb)) D E gC gB gD gE sC sB sD sE fg
 rw [L3 hc2 ⟨lD.symm,leD⟩ ⟨lE.symm,leE⟩,S6] at z3
 have fh:(Qy D E f (td+te)).fine:=LF gD gE ff
 have z4:=eN (Qy D E f (td+te)) (Qy D E f (td+te)) fh fh
 rw [decide_eq_true rfl] at z4
 simp only at z1 z2 z3
 generalize Qy D E f (td+te)=G1 at *
 generalize Qy C B f (tc+tb)=G2 at *
 simp (disch:=omega) only [JH,v1,v2,Q3,XC,Kt,Qg,↓Xt,wD,↓X2,wA,seval,wE]
 refine X0 ca rfl ?_
 simp (disch:=omega) only [JH,v1,v2,Q3,XC,Kt,Qg,↓Xt,wD,↓X2,wA,seval,wE]
 refine X0 z1 rfl ?_
 simp (disch:=omega) only [Q3,XC,Kt,Qg,↓Xt,wD,↓X2,wA,seval,wE]
 refine X0 z2 rfl ?_
 simp (disch:=omega) only [Q3,XC,Kt,Qg,↓Xt,wD,↓X2,wA,seval,wE]
 refine X0 z3 rfl ?_
 simp (disch:=omega) only [Q3,XC,Kt,Qg,↓Xt,wD,↓X2,wA,seval,wE]
 refine X0 z4 rfl ?_
 simp (disch:=omega) only [Q3,XC,Kt,Qg,↓Xt,wD,↓X2,wA,seval,wE]
 refine X0 PW rfl ?_
 simp (disch:=omega) only [↓Xt,wD,↓X2,wA,seval,wE]
 exact Xs rfl rfl (X3 _) rfl
end
end Go.Ab.N
