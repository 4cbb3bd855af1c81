/- Contracts of functions of these chapters, for every argument that fits, and what they need. -/
import Derived.Test.YtefjhgcndhepeaaGreatC12
import Derived.Test.YtefjhgcndhepeaaGreatC6
set_option linter.unusedSimpArgs false
set_option linter.unusedVariables false
open Nat renaming reducePow → Y1, reduceLT → Y2, reduceLeDiff → Y3, reduceEqDiff → Y4, reduceAdd → Y5, reduceMul → Y6, reduceSub → Y7, reduceBEq → Y8, reduceDiv → Y9, reduceMod → YA
namespace Go.Ab.N
open Go Go.RowKit Go.Proofs
noncomputable section
set_option maxRecDepth 10000
set_option maxHeartbeats 4000000
open Classical
def X1w (l:List Int) (W H M k:Nat):Int×Int:=(1+Ab.atF l (3+k:Nat) ((W:Int) - 1),if k=M then (H:Int) else k)
def X2y (l:List Int) (W H M:Nat):List (Int×Int):=(List.range (M+1)).map (X1w l W H M)
def X22 (l:List Int) (W H M:Nat):List (Int×Int):=(0,0) :: X2y l W H M ++ [(0,(H:Int))]
def X3u (l:List Int) (W H M i:Nat):List (Int×Int):=[X1w l W H M 0,((W:Int),0),((W:Int),(H:Int))] ++ (List.range i).map fun i=>X1w l W H M (M - i)
def X2c (l:List Int) (W H M:Nat):List (Int×Int):=X3u l W H M M
def byP (l:List Int):Int×Int:=(Ab.atF l 8 9 - 4,Ab.atF l 9 9 - 4)
def qtN (l:List Int):Nat:=(Ab.atF l 7 4).toNat
def X4w (l:List Int) (W H M:Nat):List (Int×Int):=(X2c l W H M).map (mvP (qtN l) (byP l))
def Xa3 (l:List Int):V2:=X2o ((4 - qtN l) % 4) X4b
def X8L (l:List Int):V2:=v0.sub (rot (Xa3 l) (ptV (byP l)))
def XcS (l:List Int) (M:Nat):FV:=⟨0,1,1,(M+2:Nat),M,Xa3 l,X8L l,X8L l⟩
def brC (a b:PV) (f:FV):List AV:=pvC a ++ (pvC b ++ fvC f)
def X3C:List AV:=[I 0,I 0,I 0,I 0,I 0] ++ (X0R ++ (X0R ++ X0R))
theorem XgT (l:List Int) (W H M k:Nat) (h:k≤M):(X2y l W H M).getD k (0,0)=X1w l W H M k:=Xd6 _ _ _ _ (by omega)
theorem XgU (l:List Int) (W H M k:Nat) (hW:4≤W∧W≤7) (hH:H≤6) (hk:k≤3):(1≤(X1w l W H M k).1∧(X1w l W H M k).1<W)∧0≤(X1w l W H M k).2∧(X1w l W H M k).2≤6:=by
 have:=X0N l (3+k:Nat) ((W:Int) - 1) (by omega)
 unfold X1w
 simp only
 refine ⟨by omega,?_⟩
 split <;> omega
theorem XsX (C:List (Int×Int)) (x y:Int×Int) (j:Nat) (h:j<C.length):(x :: C ++ [y]).getD (j+1) (0,0)=C.getD j (0,0):=by
 rw [List.getD_eq_getElem?_getD,List.getD_eq_getElem?_getD,List.cons_append,List.getElem?_cons_succ,List.getElem?_append_left h]
theorem XlC (C:List (Int×Int)) (h:Int) (j:Nat) (hj:j<(C.length+2)*2):X2H ((1+C.length)*2) (X2H 2 (ofL [I 0,I 0]) (C.length*2) (X0M ptC 2 (0,0) C)) 2 (ofL [I 0,I h]) j=X0M ptC 2 (0,0) ((0,0) :: C ++ [(0,h)]) j:=by
 unfold X2H X0M
 by_cases h1:j<(1+C.length)*2
 ·rw [if_pos h1]
  by_cases h2:j<2
  ·rw [if_pos h2]
   match j,h2 with
   | 0,_=>rfl
   | 1,_=>rfl
  ·rw [if_neg h2,if_pos (by omega)]
   obtain ⟨i,rfl⟩:∃ i,j=i+2:=⟨j - 2,by omega⟩
   rw [show (i+2) / 2=i / 2+1 by omega,show (i+2) % 2=i % 2 by omega,show i+2 - 2=i by omega,XsX C (0,0) (0,h) (i / 2) (by omega)]
 ·rw [if_neg h1,if_pos (by omega)]
  have e:((0,0) :: C ++ [(0,h)]).getD (j / 2) (0,0)=(0,h):=by
   rw [show j / 2=C.length+1 by omega,List.getD_eq_getElem?_getD,List.cons_append,List.getElem?_cons_succ,List.getElem?_append_right (Nat.le_refl _),Nat.sub_self]; rfl
  rw [e]
  obtain ⟨i,hi,rfl⟩:∃ i,i<2∧j=(1+C.length)*2+i:=⟨j - (1+C.length)*2,by omega,by omega⟩
  rw [Nat.add_sub_cancel_left,show ((1+C.length)*2+i) % 2=i by omega]
  match i,hi with
  | 0,_=>rfl
  | 1,_=>rfl
theorem Xjy (a b c d:Int×Int) (j:Nat) (hj:j<8):X2H 6 (ofL (ptC a ++ (ptC b ++ ptC c))) 2 (ofL (ptC d)) j=X0M ptC 2 (0,0) [a,b,c,d] j:=by
 match j,hj with
 | 0,_=>rfl
 | 1,_=>rfl
 | 2,_=>rfl
 | 3,_=>rfl
 | 4,_=>rfl
 | 5,_=>rfl
 | 6,_=>rfl
 | 7,_=>rfl
def Xho (g:Int×Int→Int×Int) (S:List (Int×Int)) (k:Nat):List (Int×Int):=(S.take k).map g ++ S.drop k
theorem XlZ (g:Int×Int→Int×Int) (S:List (Int×Int)) (k:Nat) (h:k<S.length):(Xho g S k).getD k (0,0)=S.getD k (0,0):=by
 unfold Xho
 rw [List.getD_eq_getElem?_getD,List.getElem?_append_right (by simp; omega),List.getD_eq_getElem?_getD]
 simp [Nat.min_eq_left (Nat.le_of_lt h)]
theorem XpF (g:Int×Int→Int×Int) (S:List (Int×Int)) (k:Nat) (h:k≤S.length):(Xho g S k).length=S.length:=by unfold Xho; simp; omega
theorem XpG (g:Int×Int→Int×Int) (S:List (Int×Int)) (k:Nat) (h:k<S.length):(Xho g S k).set k (g (S.getD k (0,0)))=Xho g S (k+1):=by
 refine List.ext_getElem? fun j=>?_
 unfold Xho
 rw [List.getElem?_set]
 by_cases hj:k=j
 ·subst hj
  rw [if_pos rfl,if_pos (by simp; omega),List.getElem?_append_left (by simp; omega),List.getElem?_map,List.getElem?_take,if_pos (by omega),List.getElem?_eq_getElem h,List.getD_eq_getElem?_getD,List.getElem?_eq_getElem h]; rfl
 ·rw [if_neg hj]
  by_cases hlt:j<k
  ·rw [List.getElem?_append_left (by simp; omega),List.getElem?_append_left (by simp; omega),List.getElem?_map,List.getElem?_map,List.getElem?_take,List.getElem?_take,if_pos hlt,if_pos (by omega)]
  ·rw [List.getElem?_append_right (by simp; omega),List.getElem?_append_right (by simp; omega),List.getElem?_drop,List.getElem?_drop]
   congr 1
   simp; omega
theorem XyE (l:List (Int×Int)) (k:Nat) (x:Int×Int) (hk:k<l.length):upd (upd (X0M ptC 2 (0,0) l) (k*2) (I x.1)) (k*2+1) (I x.2)=X0M ptC 2 (0,0) (l.set k x):=by
 funext j
 have e:(l.set k x).getD k (0,0)=x:=by rw [List.getD_eq_getElem?_getD,List.getElem?_set_self hk]; rfl
 unfold upd X0M
 by_cases h1:j=k*2+1
 ·rw [if_pos h1,h1,show (k*2+1) / 2=k by omega,show (k*2+1) % 2=1 by omega,e]; rfl
 ·rw [if_neg h1]
  by_cases h2:j=k*2
  ·rw [if_pos h2,h2,show (k*2) / 2=k by omega,show (k*2) % 2=0 by omega,e]; rfl
  ·rw [if_neg h2]
   have:(l.set k x).getD (j / 2) (0,0)=l.getD (j / 2) (0,0):=by rw [List.getD_eq_getElem?_getD,List.getElem?_set_ne (by omega),List.getD_eq_getElem?_getD]
   rw [this]
theorem X8g (l:List Int) (W H M:Nat) (hW:4≤W∧W≤7) (hH:H≤6) (hM:M≤3) (k:Nat) (hk:k≤M):(0≤(X1w l W H M k).1∧(X1w l W H M k).1≤7)∧0≤(X1w l W H M k).2∧(X1w l W H M k).2≤7:=by
 have:=XgU l W H M k hW hH (by omega)
 omega
theorem Xbk (l:List Int) (W H M:Nat) (hW:4≤W∧W≤7) (hH:H≤6) (hM:M≤3):X2e (X22 l W H M):=fun c hc=>by
 unfold X22 at hc
 rw [List.mem_append,List.mem_cons,List.mem_singleton] at hc
 rcases hc with (rfl | hc) | rfl
 ·exact ⟨⟨by decide,by decide⟩,⟨by decide,by decide⟩⟩
 ·obtain ⟨k,hk,rfl⟩:=List.mem_map.1 hc
  have:=X8g l W H M hW hH hM k (by have:=List.mem_range.1 hk; omega)
  omega
 ·show (-65536≤(0:Int)∧(0:Int)≤65536)∧(-65536≤(H:Int)∧(H:Int)≤65536)
  omega
theorem Xat (l:List Int) (W H M:Nat) (hW:4≤W∧W≤7) (hH:H≤6) (hM:M≤3):∀ c∈X2c l W H M,(0≤c.1∧c.1≤7)∧0≤c.2∧c.2≤7:=fun c hc=>by
 unfold X2c X3u at hc
 simp only [List.mem_append,List.mem_cons,List.not_mem_nil,or_false,List.mem_map,List.mem_range] at hc
 rcases hc with (rfl | rfl | rfl) | ⟨k,hk,rfl⟩
 ·exact X8g l W H M hW hH hM 0 (by omega)
 ·show (0≤(W:Int)∧(W:Int)≤7)∧0≤(0:Int)∧(0:Int)≤7
  omega
 ·show (0≤(W:Int)∧(W:Int)≤7)∧0≤(H:Int)∧(H:Int)≤7
  omega
 ·exact X8g l W H M hW hH hM (M - k) (by omega)
theorem XaA (l:List Int) (W H M:Nat) (hW:4≤W∧W≤7) (hH:H≤6) (hM:M≤3):X2e (X4w l W H M):=fun c hc=>by
 obtain ⟨p,hp,rfl⟩:=List.mem_map.1 hc
 have h1:=Xat l W H M hW hH hM p hp
 have h2:=X9o p 7 (by omega) (by omega) (qtN l)
 have b8:=X0N l 8 9 (by omega)
 have b9:=X0N l 9 9 (by omega)
 show (-65536≤(X4A (qtN l) p).1+(Ab.atF l 8 9 - 4)∧(X4A (qtN l) p).1+(Ab.atF l 8 9 - 4)≤65536)∧(-65536≤(X4A (qtN l) p).2+(Ab.atF l 9 9 - 4)∧(X4A (qtN l) p).2+(Ab.atF l 9 9 - 4)≤65536)
 omega
theorem Xbv (l:List Int):vb (Xa3 l)≤10∧vb (X8L l)≤100:=by
 have h1:vb (Xa3 l)≤10:=by unfold Xa3; rw [X6j]; exact X80
 have b8:=X0N l 8 9 (by omega)
 have b9:=X0N l 9 9 (by omega)
 have h2:vb (ptV (byP l))≤3:=by
  have q1:=X3j (byP l).1 3 (by omega) (X1n (by unfold byP; simp only; exact ⟨by omega,by omega⟩))
  have q2:=X3j (byP l).2 3 (by omega) (X1n (by unfold byP; simp only; exact ⟨by omega,by omega⟩))
  unfold vb ptV
  simp only
  omega
 have h3:=X7Z (Xa3 l) (ptV (byP l))
 have h4:=X2Y v0 (rot (Xa3 l) (ptV (byP l)))
 have:=XaC
 refine ⟨h1,?_⟩
 unfold X8L
 omega
def fbL (l:List Int) (W H:Nat):List Int:=[(W:Int) - 4,(H:Int) - 3,0,Ab.atF l 3 ((W:Int) - 1),Ab.atF l 4 ((W:Int) - 1),0,0,Ab.atF l 7 4]
def sPr (l:List Int) (W H M:Nat) (x9 x10 x11 x12 x13 x14 x16 x17 x18:AV) (r:List AO):AS:=⟨20,[],[X0f l,.any,.ref 0 0 0,I W,I H,I M,.osl 1 (M+1) 2 0 (M+1),.any,.any,x9,x10,x11,x12,x13,x14,.any,x16,x17,x18,.any],[],[.row 0 79 (ofL (X1U ++ (X1U ++ X3C))),.row (M+1) ((M+1)*2) (X0M ptC 2 (0,0) (X2y l W H M))] ++ r⟩
theorem XeJ (l:List Int) (W H M i:Nat):X3u l W H M (i+1)=X3u l W H M i ++ [X1w l W H M (M - i)]:=by
 unfold X3u; rw [XcM,List.append_assoc]
theorem Xas (l:List Int) (W H M i:Nat):(X3u l W H M i).length=3+i:=by simp [X3u]; omega
theorem Xau (a b:PV) (f:FV):∀ x∈brC a b f,Settled x:=fun x h=>by
 unfold brC at h
 rw [List.mem_append,List.mem_append] at h
 rcases h with h | h | h
 ·exact X0w a x h
 ·exact X0w b x h
 ·exact X10 f x h
theorem Xy8 (m v n:Nat) (L:List (Int×Int)):X1j m (.row v n (X0M ptC 2 (0,0) L))=True:=eq_true fun j _=>X06 (X0c (X2C _) _)
theorem Xgi (f:Nat→AV) (t:Bool):Settled (.sl 0 0 f t):=X1J fun j hj=>absurd hj (Nat.not_lt_zero j)
theorem belZ (m v n:Nat):X1j m (.row v n (ofL (X1U ++ (X1U ++ X3C))))=True:=eq_true fun j _=>X06 (X0c (l:=X1U ++ (X1U ++ X3C)) (by simp [X1U,X3C,X0R,X08,X02,Xgi]) _)
theorem XcT (l:List Int) (hl:XaQ l) (W H M:Nat) (hW:(4:Int)+Ab.atF l 0 4=W) (hH:(3:Int)+Ab.atF l 1 4=H) (hM:(1:Int)+Ab.atF l 2 3=M) (A' B':PV) (F':FV)
  (hr:¬ (X0F (X0Q (X22 l W H M))∧X0F (X0Q (X2c l W H M)))→Fn Tryz.prog 28 [X0f (fbL l W H)] (.agg (brC A' B' F'))) :
  ∃ A B F,Fn Tryz.prog 28 [X0f l] (.agg (brC A B F))∧(((X0F (X0Q (X22 l W H M))∧X0F (X0Q (X2c l W H M)))∧A=X4U (X22 l W H M) l 10∧B=X4U (X4w l W H M) l 20∧F=XcS l M) ∨
   (¬ (X0F (X0Q (X22 l W H M))∧X0F (X0Q (X2c l W H M)))∧A=A'∧B=B'∧F=F')):=by
 obtain ⟨A,B,F,hABF⟩:∃ A B F,(((X0F (X0Q (X22 l W H M))∧X0F (X0Q (X2c l W H M)))∧A=X4U (X22 l W H M) l 10∧B=X4U (X4w l W H M) l 20∧F=XcS l M) ∨
   (¬ (X0F (X0Q (X22 l W H M))∧X0F (X0Q (X2c l W H M)))∧A=A'∧B=B'∧F=F')):=by
  by_cases h:X0F (X0Q (X22 l W H M))∧X0F (X0Q (X2c l W H M))
  ·exact ⟨_,_,_,.inl ⟨h,rfl,rfl,rfl⟩⟩
  ·exact ⟨_,_,_,.inr ⟨h,rfl,rfl,rfl⟩⟩
 refine ⟨A,B,F,?_,hABF⟩
 obtain ⟨R,hR⟩:∃ R,R=AV.agg (brC A B F):=⟨_,rfl⟩
 have sR:Settled R:=hR▸X0V (Xau A B F)
 rw [← hR]
 have b0:=X0N l 0 4 (by omega)
 have b1:=X0N l 1 4 (by omega)
 have b2:=X0N l 2 3 (by omega)
 have c0:=X2q l 0 4 hl (by omega)
 have c1:=X2q l 1 4 hl (by omega)
 have c2:=X2q l 2 3 hl (by omega)
 refine Fq Tryz.call28 Tryz.func28 20 [] [37,380000013,380000017] [] (by simp [X07]) (X00 1000 ?_)
 simp (disch:=omega) only [AS.start,X04,↓X0v,wD,↓X03,wA,seval,wE]
 refine X01 c0 rfl ?_
 simp (disch:=omega) only [X04,hW,↓X0v,wD,↓X03,wA,seval,wE]
 refine X01 c1 rfl ?_
 simp (disch:=omega) only [X04,hH,↓X0v,wD,↓X03,wA,seval,wE]
 refine X01 c2 rfl ?_
 simp (disch:=omega) only [X04,hM,↓X0v,wD,↓X03,wA,seval,wE]
 refine X0d (fun k:Nat=>⟨20,[],[X0f l,.any,.ref 0 0 0,I W,I H,I M,.osl 1 k 2 0 k,I k,.any,.any,.any,.any,.any,.any,.any,.any,.any,.any,.any,.any],[],[.row 0 79 (ofL (X1U ++ (X1U ++ X3C))),.row k (k*2) (X0M ptC 2 (0,0) ((X2y l W H M).take k))]⟩) (fun k=>k≤M+1) (fun k=>M+1 - k) 0 (by omega)
  (Sub.trans (X0W 6 2 (X0M ptC 2 (0,0) []) rfl) (X09 rfl (by simp [AS.put,X0p,X04,I]) (by simp [AS.put,X0q]) (by simp [AS.put,X1U,X3C,X0R,I]))) ?_
 intro k hk next
 by_cases hk2:k<M+1
 ·have c3:=X2q l (3+k:Nat) ((W:Int) - 1) hl (by omega)
  have b3:=X0N l (3+k:Nat) ((W:Int) - 1) (by omega)
  have htk:(X2y l W H M).take (k+1)=(X2y l W H M).take k ++ [X1w l W H M k]:=by rw [X1b _ (0,0) k (by simp [X2y]; omega),XgT _ _ _ _ _ (by omega)]
  have nx:=next (k+1)
  rw [htk] at nx
  have hcl:((X2y l W H M).take k).length=k:=by simp [X2y]; omega
  have hcp:X1w l W H M k=(1+Ab.atF l (3+k:Nat) ((W:Int) - 1),if k=M then (H:Int) else k):=rfl
  rw [hcp] at nx
  generalize Ab.atF l (3+k:Nat) ((W:Int) - 1)=x at *
  rw [Int.natCast_add] at c3
  change Fn _ _ [X0f l,I ((3:Int)+k),_] _ at c3
  generalize (X2y l W H M).take k=C at *
  by_cases he:k=M
  ·rw [if_pos he] at nx
   have hap:=X0E ptC 2 (0,0) C (1+x,(H:Int)) (by omega)
   rw [hcl] at hap
   refine X00 1000 ?_
   simp (disch:=omega) only [X04,↓X0v,wD,↓X03,wA,seval,wE]
   refine X01 c3 rfl ?_
   simp (disch:=omega) only [X04,↓X0v,wD,↓X03,wA,seval,wE]
   exact ⟨X8u (1+x,(H:Int)),nx _ (by omega) (by omega) (X09 rfl (by simp [X0p,X04,I]) (by simp [X0q]) (by rw [← hap]; simp [ptC,I]))⟩
  ·rw [if_neg he] at nx
   have hap:=X0E ptC 2 (0,0) C (1+x,(k:Int)) (by omega)
   rw [hcl] at hap
   refine X00 1000 ?_
   simp (disch:=omega) only [X04,↓X0v,wD,↓X03,wA,seval,wE]
   refine X01 c3 rfl ?_
   simp (disch:=omega) only [X04,↓X0v,wD,↓X03,wA,seval,wE]
   exact ⟨X8u (1+x,(k:Int)),nx _ (by omega) (by omega) (X09 rfl (by simp [X0p,X04,I]) (by simp [X0q]) (by rw [← hap]; simp [ptC,I]))⟩
 obtain rfl:k=M+1:=by omega
 have htk:(X2y l W H M).take (M+1)=X2y l W H M:=List.take_of_length_le (by simp [X2y])
 rw [htk]
 have hCl:(X2y l W H M).length=M+1:=by simp [X2y]
 have hq:∀ k,k≤M→X0M ptC 2 (0,0) (X2y l W H M) (k*2)=I (X1w l W H M k).1∧X0M ptC 2 (0,0) (X2y l W H M) (k*2+1)=I (X1w l W H M k).2:=fun k hk=>by
  rw [X3I ptC 2 (0,0) (X2y l W H M) k (by omega),X3z ptC 2 (0,0) (X2y l W H M) k 1 (by omega),XgT _ _ _ _ _ hk]
  exact ⟨rfl,rfl⟩
 have q0:X0M ptC 2 (0,0) (X2y l W H M) 0=I (X1w l W H M 0).1:=(hq 0 (by omega)).1
 have q1:X0M ptC 2 (0,0) (X2y l W H M) 1=I (X1w l W H M 0).2:=(hq 0 (by omega)).2
 have hF:X22 l W H M=(0,0) :: X2y l W H M ++ [(0,(H:Int))]:=rfl
 have hfr:=XlC (X2y l W H M) H
 rw [← hF,hCl] at hfr
 have hFl:(X22 l W H M).length=M+3:=by rw [hF]; simp [hCl]
 have hSl:(X2c l W H M).length=M+3:=by unfold X2c; rw [Xas]; omega
 have hcr:=XgU l W H M
 have n1:=Xbk l W H M (by omega) (by omega) (by omega)
 have n2:=Xat l W H M (by omega) (by omega) (by omega)
 refine X00 1000 ?_
 simp (disch:=omega) only [X04,q0,q1,↓X0v,wD,↓X03,wA,seval,wE]
 refine ⟨fun j _=>XhU _ _ _ _ _ (by omega) fun a=>⟨rfl,by simp [ptC,I,AV.one]⟩,X8u (0,(H:Int)),?_⟩
 refine X0d (fun i:Nat=>match i with
  | 0=>sPr l W H M (.osl 2 1 2 0 (M+3)) (.sl 3 6 (ofL [I (X1w l W H M 0).1,I (X1w l W H M 0).2,I W,I 0,I W,I H]) true) (I M) .any .any .any .any .any .any [.row 1 ((M+3)*2) (X0M ptC 2 (0,0) (X22 l W H M))]
  | i+1=>sPr l W H M (.osl 2 1 2 0 (M+3)) (.osl 3 i 2 0 (4+i)) (I (M - (i+1):Nat)) .any .any .any .any .any .any [.row 1 ((M+3)*2) (X0M ptC 2 (0,0) (X22 l W H M)),.row i ((4+i)*2) (X0M ptC 2 (0,0) (X3u l W H M (i+1)))])
  (fun i=>i≤M) (fun i=>M - i) 0 (by omega)
  (Sub.trans (X1v 2 ((M+3)*2) (X0M ptC 2 (0,0) (X22 l W H M)) rfl (by omega) (fun j hj=>hfr j (by omega))) (X09 rfl (by simp [sPr,X0p,X04,I]; omega) (by simp [X0q,sPr]) (by simp [sPr,X1U,X3C,X0R,I]))) ?_
 intro i hi next
 match i,hi,next with
 | 0,hi,next =>
  have ho:=Xjy (X1w l W H M 0) ((W:Int),0) ((W:Int),(H:Int)) (X1w l W H M M)
  have w1:=(hq M (by omega)).1
  have w2:=(hq M (by omega)).2
  refine X00 1000 ?_
  simp (disch:=omega) only [sPr,X04,List.cons_append,List.nil_append,w1,w2,↓X0v,wD,↓X03,wA,seval,wE]
  exact ⟨X8u (X1w l W H M M),next 1 _ (by omega) (by omega) (Sub.trans (X1v 3 8 (X0M ptC 2 (0,0) (X3u l W H M 1)) rfl (by omega) (fun j hj=>ho j hj)) (X09 rfl (by simp [sPr,X0p,X04,I]; omega) (by simp [X0q,sPr]) (by simp [sPr])))⟩
 | i+1,hi,next =>
 by_cases hi2:i+1<M
 ·have w1:=(hq (M - (i+1)) (by omega)).1
  have w2:=(hq (M - (i+1)) (by omega)).2
  have hs:=XeJ l W H M (i+1)
  have hap:=X0E ptC 2 (0,0) (X3u l W H M (i+1)) (X1w l W H M (M - (i+1))) (by omega)
  rw [Xas,show 3+(i+1)=4+i by omega] at hap
  refine X00 1000 ?_
  simp (disch:=omega) only [sPr,X04,List.cons_append,List.nil_append,w1,w2,↓X0v,wD,↓X03,wA,seval,wE]
  exact ⟨X8u (X1w l W H M (M - (i+1))),next (i+2) _ (by omega) (by omega) (X09 rfl (by simp [sPr,X0p,X04,I]; omega) (by simp [X0q,sPr]) (by rw [← hs] at hap; simp [sPr,← hap,ptC,I,show 4+i+1=4+(i+1) by omega]))⟩
 obtain rfl:M=i+1:=by omega
 clear next
 have k1:=XbR (X22 l W H (i+1)) n1 (by omega)
 have k2:=XbR (X2c l W H (i+1)) (fun c hc=>by have:=n2 c hc; omega) (by omega)
 refine X00 1000 ?_
 simp (disch:=omega) only [sPr,X04,List.cons_append,List.nil_append,↓X0v,wD,↓X03,wA,seval,wE]
 refine X2l k1 rfl ⟨?_,trivial⟩ (X5a _) ?_
 ·show X4B _ (.osl 2 1 2 0 (i+1+3)) (pts (X22 l W H (i+1)))
  rw [X0e,hFl]
  refine X1e (.inl rfl) (by omega) (fun h=>by omega) fun j hj=>?_
  rw [Nat.zero_add]
  exact (X0c (l:=ptC ((X22 l W H (i+1)).getD (j / 2) (0,0))) (X2C _) _).sees _
 by_cases p1:X0F (X0Q (X22 l W H (i+1)))
 rotate_left
 ·have hr2:=hr (fun h=>p1 h.1)
  rcases hABF with ⟨h,_⟩ | ⟨_,rfl,rfl,rfl⟩
  ·exact absurd h.1 p1
  have a3:=X2q l 3 ((W:Int) - 1) hl (by omega)
  have a4:=X2q l 4 ((W:Int) - 1) hl (by omega)
  have a7:=X2q l 7 4 hl (by omega)
  simp (disch:=omega) only [decide_eq_false p1,sPr,X04,List.cons_append,List.nil_append,↓X0v,wD,↓X03,wA,seval,wE]
  refine X01 a3 rfl ?_
  simp (disch:=omega) only [sPr,X04,List.cons_append,List.nil_append,↓X0v,wD,↓X03,wA,seval,wE]
  refine X01 a4 rfl ?_
  simp (disch:=omega) only [sPr,X04,List.cons_append,List.nil_append,↓X0v,wD,↓X03,wA,seval,wE]
  refine X01 a7 rfl ?_
  simp (disch:=omega) only [sPr,X04,List.cons_append,List.nil_append,↓X0v,wD,↓X03,wA,seval,wE]
  refine X17 hr2 ⟨X3S rfl rfl,trivial⟩ ?_
  simp (disch:=omega) only [brC,pvC,fvC,X1U,X3C,X0R,X04,List.cons_append,List.nil_append,↓X0v,wD,↓X03,wA,seval,wE]
  exact X6f rfl Xpv rfl rfl rfl sR (hR.trans rfl)
 simp (disch:=omega) only [decide_eq_true p1,sPr,X04,List.cons_append,List.nil_append,↓X0v,wD,↓X03,wA,seval,wE]
 refine X2l k2 rfl ⟨?_,trivial⟩ (X5a _) ?_
 ·show X4B _ (.osl 3 i 2 0 (4+i)) (pts (X2c l W H (i+1)))
  rw [X0e,hSl,show i+1+3=4+i by omega]
  refine X1e (.inl rfl) (by omega) (fun h=>by omega) fun j hj=>?_
  rw [Nat.zero_add]
  exact (X0c (l:=ptC ((X2c l W H (i+1)).getD (j / 2) (0,0))) (X2C _) _).sees _
 by_cases p2:X0F (X0Q (X2c l W H (i+1)))
 rotate_left
 ·have hr2:=hr (fun h=>p2 h.2)
  rcases hABF with ⟨h,_⟩ | ⟨_,rfl,rfl,rfl⟩
  ·exact absurd h.2 p2
  have a3:=X2q l 3 ((W:Int) - 1) hl (by omega)
  have a4:=X2q l 4 ((W:Int) - 1) hl (by omega)
  have a7:=X2q l 7 4 hl (by omega)
  simp (disch:=omega) only [decide_eq_false p2,sPr,X04,List.cons_append,List.nil_append,↓X0v,wD,↓X03,wA,seval,wE]
  refine X01 a3 rfl ?_
  simp (disch:=omega) only [sPr,X04,List.cons_append,List.nil_append,↓X0v,wD,↓X03,wA,seval,wE]
  refine X01 a4 rfl ?_
  simp (disch:=omega) only [sPr,X04,List.cons_append,List.nil_append,↓X0v,wD,↓X03,wA,seval,wE]
  refine X01 a7 rfl ?_
  simp (disch:=omega) only [sPr,X04,List.cons_append,List.nil_append,↓X0v,wD,↓X03,wA,seval,wE]
  refine X17 hr2 ⟨X3S rfl rfl,trivial⟩ ?_
  simp (disch:=omega) only [brC,pvC,fvC,X1U,X3C,X0R,X04,List.cons_append,List.nil_append,↓X0v,wD,↓X03,wA,seval,wE]
  exact X6f rfl Xpv rfl rfl rfl sR (hR.trans rfl)
 clear hr
 rcases hABF with ⟨_,rfl,rfl,rfl⟩ | ⟨h,_⟩
 rotate_left
 ·exact absurd ⟨p1,p2⟩ h
 have a7:=X2q l 7 4 hl (by omega)
 have a8:=X2q l 8 9 hl (by omega)
 have a9:=X2q l 9 9 hl (by omega)
 have b7:=X0N l 7 4 (by omega)
 have b8:=X0N l 8 9 (by omega)
 have b9:=X0N l 9 9 (by omega)
 have e7:Ab.atF l 7 4=(qtN l:Int):=by unfold qtN; omega
 have hD:byP l=(Ab.atF l 8 9 - 4,Ab.atF l 9 9 - 4):=rfl
 simp (disch:=omega) only [decide_eq_true p2,sPr,X04,List.cons_append,List.nil_append,↓X0v,wD,↓X03,wA,seval,wE]
 refine X01 a7 rfl ?_
 simp (disch:=omega) only [e7,sPr,X04,List.cons_append,List.nil_append,↓X0v,wD,↓X03,wA,seval,wE]
 refine X01 a8 rfl ?_
 simp (disch:=omega) only [sPr,X04,List.cons_append,List.nil_append,↓X0v,wD,↓X03,wA,seval,wE]
 refine X01 a9 rfl ?_
 simp (disch:=omega) only [sPr,X04,List.cons_append,List.nil_append,↓X0v,wD,↓X03,wA,seval,wE]
 have hSN:X3u l W H (i+1) (i+1)=X2c l W H (i+1):=rfl
 rw [← hSN] at hSl n2
 have hST:X4w l W H (i+1)=(X3u l W H (i+1) (i+1)).map (mvP (qtN l) (byP l)):=rfl
 have n3:=XaA l W H (i+1) (by omega) (by omega) (by omega)
 have hTl:(X4w l W H (i+1)).length=4+i:=by rw [hST,List.length_map,hSl]; omega
 have q4:qtN l≤3:=by omega
 generalize X3u l W H (i+1) (i+1)=S at *
 have bD:(-4≤(byP l).1∧(byP l).1≤4)∧-4≤(byP l).2∧(byP l).2≤4:=by rw [hD]; omega
 have hAt:X8L l=v0.sub (rot (Xa3 l) (ptV (byP l))):=rfl
 have hT:Xa3 l=X2o ((4 - qtN l) % 4) X4b:=rfl
 have hPF:XcS l (i+1)=⟨0,1,1,(i+1+2:Nat),(i+1:Nat),Xa3 l,X8L l,X8L l⟩:=rfl
 have hps:=Xbv l
 rw [hPF] at hR
 have m1:=XlU (X22 l W H (i+1)) l 10 (by omega) hl (by omega)
 have m2:=XlU (X4w l W H (i+1)) l 20 (by omega) hl (by omega)
 generalize X4U (X22 l W H (i+1)) l 10=A at *
 generalize X4U (X4w l W H (i+1)) l 20=B at *
 generalize X22 l W H (i+1)=FL at *
 generalize X8L l=at' at *
 generalize byP l=D at *
 obtain ⟨D1,D2⟩:=D
 rw [Prod.mk.injEq] at hD
 obtain ⟨rfl,rfl⟩:=hD
 generalize qtN l=q at *
 generalize Xa3 l=T at *
 generalize Ab.atF l 8 9 - 4=D1 at *
 generalize Ab.atF l 9 9 - 4=D2 at *
 simp only at bD
 generalize hg:mvP q (D1,D2)=g at *
 refine X0d (fun k:Nat=>sPr l W H (i+1) (.osl 2 1 2 0 (i+1+3)) (.osl 3 i 2 0 (4+i)) .any (I q) (.ref 4 0 0) (I k) .any .any .any [.row 1 ((i+1+3)*2) (X0M ptC 2 (0,0) FL),.row i ((4+i)*2) (X0M ptC 2 (0,0) (Xho g S k)),.row 0 2 (ofL [I D1,I D2])])
  (fun k=>k≤4+i) (fun k=>4+i - k) 0 (by omega)
  (X09 rfl (by simp [sPr,X0p,X04,I]) (by simp [X0q,sPr]) (by simp [sPr,Xho,I])) ?_
 intro k hk next
 by_cases hk2:k<4+i
 ·have hp:=n2 (S.getD k (0,0)) (X2u (by omega))
  have hb:=X9o (S.getD k (0,0)) 7 (by omega) (by omega) q
  have c:=Xn6 (S.getD k (0,0)) q (by omega) (by omega) (by omega)
  have u0:X0M ptC 2 (0,0) (Xho g S k) (k*2)=I (S.getD k (0,0)).1:=by rw [X3I _ _ _ _ _ (by omega),XlZ g S k (by omega)]; rfl
  have u1:X0M ptC 2 (0,0) (Xho g S k) (k*2+1)=I (S.getD k (0,0)).2:=by rw [X3z _ _ _ _ _ _ (by omega),XlZ g S k (by omega)]; rfl
  have hs:=XyE (Xho g S k) k (g (S.getD k (0,0))) (by rw [XpF g S k (by omega)]; omega)
  rw [XpG g S k (by omega)] at hs
  have hgk:g (S.getD k (0,0))=((X4A q (S.getD k (0,0))).1+D1,(X4A q (S.getD k (0,0))).2+D2):=by rw [← hg]; rfl
  rw [hgk] at hs
  generalize S.getD k (0,0)=p at *
  generalize X4A q p=w at *
  refine X00 1000 ?_
  simp (disch:=omega) only [sPr,X04,ptC,List.cons_append,List.nil_append,u0,u1,↓X0v,wD,↓X03,wA,seval,wE]
  refine X01 c rfl ?_
  simp (disch:=omega) only [sPr,X04,ptC,List.cons_append,List.nil_append,↓X0v,wD,↓X03,wA,seval,wE]
  exact next (k+1) _ (by omega) (by omega) (X0t (m:=5) (Nat.zero_le _) rfl (by simp [sPr,X0p,X04,I]) (by simp [X0q,sPr]) (by simp [sPr,← hs,ptC,I]) (by simp [sPr,X0L]) (by simp [sPr,X0L]) (by simp [sPr,Xy8,belZ,X0L]))
 obtain rfl:k=4+i:=by omega
 have hm:Xho g S (4+i)=X4w l W H (i+1):=by
  rw [hST]; unfold Xho; rw [List.take_of_length_le (by omega),List.drop_eq_nil_of_le (by omega),List.append_nil]
 rw [hm]
 clear next
 generalize X4w l W H (i+1)=ST at *
 refine Run.sub (s':=sPr l W H (i+1) (pts FL) (pts ST) .any (I q) (.ref 4 0 0) (I (4+i:Nat)) .any .any .any [.con 1 ((i+1+3)*2) (X0M ptC 2 (0,0) FL),.con i ((4+i)*2) (X0M ptC 2 (0,0) ST),.row 0 2 (ofL [I D1,I D2])]) ?_
  (Sub.trans (X1a 2 rfl) (Sub.trans (XhY 9 (M:=(i+1+3)*2) rfl rfl (by omega) (fun h=>by omega)) (Sub.trans (X1a 3 rfl) (Sub.trans (XhY 10 (M:=(4+i)*2) rfl rfl (by omega) (fun h=>by omega)) (X09 rfl (by simp [AS.put,sPr,X0p,X0e,X04,hFl,hTl,I]) (by simp [AS.put,X0q,sPr]) (by simp [AS.put,sPr]))))))
 have o1:=X1M 1 1 ⟨by omega,by omega⟩ ⟨by omega,by omega⟩
 have v1:Rat.divInt 1 1=1:=by decide +kernel
 rw [v1] at o1
 have hrem:((4:Int) - q).tmod 4=((4 - q) % 4:Nat):=by rw [Int.tmod_eq_emod_of_nonneg (by omega)]; omega
 refine X00 1000 ?_
 simp (disch:=omega) only [sPr,X04,List.cons_append,List.nil_append,↓X0v,wD,↓X03,wA,seval,wE]
 refine X01 m1 rfl ?_
 simp (disch:=omega) only [sPr,X04,List.cons_append,List.nil_append,↓X0v,wD,↓X03,wA,seval,wE]
 refine X01 m2 rfl ?_
 simp (disch:=omega) only [sPr,X04,pvA,pvC,X1U,X3C,X0R,List.cons_append,List.nil_append,↓X0v,wD,↓X03,wA,seval,wE]
 refine X01 o1 rfl ?_
 simp (disch:=omega) only [X04,X0e,↓X0v,wD,↓X03,wA,seval,wE]
 have wst:WeakL [.bool (sg 1),X0f (X0i (Rat.num 1).natAbs),.bool false,X0f (X0i (qd 1)),.bool false,.sl 0 0 (fun _=>.any) false,.bool false,.sl 0 0 (fun _=>.any) false] (vC X4b):=by
  obtain ⟨w1,w2,w3,w4,w5,w6,w7,w8,_⟩:=X3B
  exact ⟨Weak.rfl' _,Weak.rfl' _,Weak.rfl' _,Weak.rfl' _,w5,w6,w7,w8,trivial⟩
 refine X0d (fun j:Nat=>sPr l W H (i+1) .any .any .any (I q) (.ref 4 0 0) .any (.ref 5 0 0) (.ref 6 0 0) (I j) [.con 1 ((i+1+3)*2) (X0M ptC 2 (0,0) FL),.con i ((4+i)*2) (X0M ptC 2 (0,0) ST),.row 0 2 (ofL [I D1,I D2]),.row 0 79 (ofL (pvC A ++ (pvC B ++ X84))),.row 0 8 (ofL (vC (X2o j X4b)))])
  (fun j=>j≤(4 - q) % 4) (fun j=>(4 - q) % 4 - j) 0 (by omega)
  (Sub.trans (XhX 6 (vC X4b) rfl rfl wst) (X09 rfl (by simp [sPr,X0p,X04,I]) (by simp [X0q,sPr]) (by simp [sPr,X1U,X3C,X0R,X84,X5W,pvC,X0e,X0j,X04,X2o,I]))) ?_
 intro j hj next
 have hvq:vb (X2o j X4b)≤10:=by rw [X6j]; exact X80
 have hqs:X2o (j+1) X4b=X6E (X2o j X4b):=rfl
 by_cases hj2:j<(4 - q) % 4
 ·have nx:=next (j+1)
  rw [hqs] at nx
  generalize X2o j X4b=V at *
  have q1:=X2k V
  have c:=X3b V.y (by unfold rm; omega)
  refine X00 1000 ?_
  simp (disch:=omega) only [sPr,X04,vC,hrem,List.cons_append,List.nil_append,↓X0v,wD,↓X03,wA,seval,wE]
  refine X01 c rfl ?_
  simp (disch:=omega) only [X04,↓X0v,wD,↓X03,wA,seval,wE]
  have hV:vC (X6E V)=[.bool (sg (-V.y)),X0f (X0i (-V.y).num.natAbs),.bool false,X0f (X0i (qd (-V.y))),.bool (sg V.x),X0f (X0i V.x.num.natAbs),.bool false,X0f (X0i (qd V.x))]:=rfl
  exact nx _ (by omega) (by omega) (X09 rfl (by simp [sPr,X0p,X04,I]) (by simp [X0q,sPr]) (by simp [sPr,X1U,X3C,X0R,X84,X5W,pvC,X0e,X0j,X04,hV,I]))
 obtain rfl:j=(4 - q) % 4:=by omega
 rw [← hT] at hvq ⊢
 clear next
 have c1:=X3k D1 D2 ⟨by omega,by omega⟩ ⟨by omega,by omega⟩
 have hpv:(⟨(D1:Rat),(D2:Rat)⟩:V2)=ptV (D1,D2):=rfl
 rw [hpv] at c1
 have vq:vb (ptV (D1,D2))≤3:=by
  have q1:=X3j D1 3 (by omega) (X1n ⟨by omega,by omega⟩)
  have q2:=X3j D2 3 (by omega) (X1n ⟨by omega,by omega⟩)
  unfold vb ptV
  simp only
  omega
 have c2:=X5I T (ptV (D1,D2)) (by unfold vm; omega) (by unfold vm; omega)
 have vr:=X7Z T (ptV (D1,D2))
 have vz:=XaC
 have c3:=X29 v0 (rot T (ptV (D1,D2))) (by unfold rm; omega) (by unfold rm; omega)
 rw [← hAt] at c3
 refine X00 1000 ?_
 simp (disch:=omega) only [sPr,X04,vC,hrem,List.cons_append,List.nil_append,↓X0v,wD,↓X03,wA,seval,wE]
 refine X01 c1 rfl ?_
 simp (disch:=omega) only [X04,vA,vC,↓X0v,wD,↓X03,wA,seval,wE]
 refine X01 c2 rfl ?_
 simp (disch:=omega) only [X04,vA,vC,↓X0v,wD,↓X03,wA,seval,wE]
 refine X17 c3 ⟨X0I (Xdl _),Weak.rfl' _,trivial⟩ ?_
 simp (disch:=omega) only [X04,vA,vC,pvC,X84,X5W,X1U,X3C,X0R,List.cons_append,List.nil_append,↓X0v,wD,↓X03,wA,seval,wE]
 exact X6f rfl Xpv rfl rfl rfl sR (hR.trans rfl)
theorem XiK (k m:Int) (h:0≤k∧k<m):X0Z k m=k:=by
 unfold X0Z
 rw [if_neg (by omega),Int.tmod_eq_emod_of_nonneg h.1,Int.emod_eq_of_lt h.1 h.2]
theorem X9C (L:List Int) (j:Nat) (m:Int) (h:j<L.length) (hb:0≤L.getD j 0∧L.getD j 0<m):Ab.atF L (j:Nat) m=L.getD j 0:=by
 unfold Ab.atF
 rw [if_neg (by omega),Int.toNat_natCast,XiK _ _ hb]
theorem XwF (l:List Int) (W H:Nat) (hW:4≤W∧W≤7) (hH:3≤H∧H≤6):XaQ (fbL l W H):=fun x hx=>by
 have b3:=X0N l 3 ((W:Int) - 1) (by omega)
 have b4:=X0N l 4 ((W:Int) - 1) (by omega)
 have b7:=X0N l 7 4 (by omega)
 simp only [fbL,List.mem_cons,List.not_mem_nil,or_false] at hx
 rcases hx with rfl | rfl | rfl | rfl | rfl | rfl | rfl | rfl <;> exact ⟨by omega,by omega⟩
theorem XpM (l:List Int) (hl:XaQ l):∃ (L:List Int) (W H M:Nat),XaQ L∧(4≤W∧W≤7)∧(3≤H∧H≤6)∧(1≤M∧M≤3)∧X0F (X0Q (X22 L W H M))∧X0F (X0Q (X2c L W H M)) ∧
  Fn Tryz.prog 28 [X0f l] (.agg (brC (X4U (X22 L W H M) L 10) (X4U (X4w L W H M) L 20) (XcS L M))):=by
 have b0:=X0N l 0 4 (by omega)
 have b1:=X0N l 1 4 (by omega)
 have b2:=X0N l 2 3 (by omega)
 obtain ⟨W,hW⟩:∃ W:Nat,(4:Int)+Ab.atF l 0 4=W:=⟨(4+Ab.atF l 0 4).toNat,by omega⟩
 obtain ⟨H,hH⟩:∃ H:Nat,(3:Int)+Ab.atF l 1 4=H:=⟨(3+Ab.atF l 1 4).toNat,by omega⟩
 obtain ⟨M,hM⟩:∃ M:Nat,(1:Int)+Ab.atF l 2 3=M:=⟨(1+Ab.atF l 2 3).toNat,by omega⟩
 by_cases hv:X0F (X0Q (X22 l W H M))∧X0F (X0Q (X2c l W H M))
 ·obtain ⟨A,B,F,hf,h⟩:=XcT l hl W H M hW hH hM (X4U [] [] 0) (X4U [] [] 0) fv0 (fun h=>absurd hv h)
  rcases h with ⟨_,rfl,rfl,rfl⟩ | ⟨h,_⟩
  ·exact ⟨l,W,H,M,hl,by omega,by omega,by omega,hv.1,hv.2,hf⟩
  ·exact absurd hv h
 have b3:=X0N l 3 ((W:Int) - 1) (by omega)
 have b4:=X0N l 4 ((W:Int) - 1) (by omega)
 have b7:=X0N l 7 4 (by omega)
 have hl2:=XwF l W H (by omega) (by omega)
 have a0:Ab.atF (fbL l W H) 0 4=(W:Int) - 4:=X9C _ 0 _ (by simp [fbL]) (by show 0≤(W:Int) - 4∧(W:Int) - 4<4; omega)
 have a1:Ab.atF (fbL l W H) 1 4=(H:Int) - 3:=X9C _ 1 _ (by simp [fbL]) (by show 0≤(H:Int) - 3∧(H:Int) - 3<4; omega)
 have a2:Ab.atF (fbL l W H) 2 3=0:=X9C _ 2 _ (by simp [fbL]) (by show 0≤(0:Int)∧(0:Int)<3; omega)
 have a3:Ab.atF (fbL l W H) 3 ((W:Int) - 1)=Ab.atF l 3 ((W:Int) - 1):=X9C _ 3 _ (by simp [fbL]) b3
 have a4:Ab.atF (fbL l W H) 4 ((W:Int) - 1)=Ab.atF l 4 ((W:Int) - 1):=X9C _ 4 _ (by simp [fbL]) b4
 have c0:X1w (fbL l W H) W H 1 0=(1+Ab.atF l 3 ((W:Int) - 1),0):=by
  unfold X1w; rw [if_neg (by omega)]; exact congrArg (fun z:Int=>((1:Int)+z,(0:Int))) a3
 have c1:X1w (fbL l W H) W H 1 1=(1+Ab.atF l 4 ((W:Int) - 1),(H:Int)):=by
  unfold X1w; rw [if_pos rfl]; exact congrArg (fun z:Int=>((1:Int)+z,(H:Int))) a4
 have p1:X0F (X0Q (X22 (fbL l W H) W H 1)):=by
  have e:X22 (fbL l W H) W H 1=Xu6 (1+Ab.atF l 3 ((W:Int) - 1)) (1+Ab.atF l 4 ((W:Int) - 1)) H:=by
   show (0,0) :: [X1w (fbL l W H) W H 1 0,X1w (fbL l W H) W H 1 1] ++ [(0,(H:Int))]=_
   rw [c0,c1]; rfl
  rw [e]
  exact XpY _ _ _ (by omega) (by omega) (by omega)
 have p2:X0F (X0Q (X2c (fbL l W H) W H 1)):=by
  have e:X2c (fbL l W H) W H 1=Xu7 W (1+Ab.atF l 3 ((W:Int) - 1)) (1+Ab.atF l 4 ((W:Int) - 1)) H:=by
   show [X1w (fbL l W H) W H 1 0,((W:Int),0),((W:Int),(H:Int))] ++ [X1w (fbL l W H) W H 1 1]=_
   rw [c0,c1]; rfl
  rw [e]
  exact XpZ _ _ _ _ (by omega) (by omega) (by omega) (by omega)
 obtain ⟨A,B,F,hf,h⟩:=XcT (fbL l W H) hl2 W H 1 (by rw [a0]; omega) (by rw [a1]; omega) (by rw [a2]; rfl) (X4U [] [] 0) (X4U [] [] 0) fv0 (fun h=>absurd ⟨p1,p2⟩ h)
 rcases h with ⟨_,rfl,rfl,rfl⟩ | ⟨h,_⟩
 rotate_left
 ·exact absurd ⟨p1,p2⟩ h
 obtain ⟨A,B,F,hf2,h⟩:=XcT l hl W H M hW hH hM _ _ _ (fun _=>hf)
 rcases h with ⟨h,_⟩ | ⟨_,rfl,rfl,rfl⟩
 ·exact absurd h hv
 ·exact ⟨fbL l W H,W,H,1,hl2,by omega,by omega,by omega,p1,p2,hf2⟩
theorem Xmg (l:List Int) (hl:XaQ l):∃ (A B:PV) (F:FV) (ta tb:Rat),Fn Tryz.prog 28 [X0f l] (.agg (brC A B F))∧GP A ta∧GP B tb∧A.small∧B.small∧qb ta≤3∧qb tb≤3∧vb F.turn≤10∧vb F.lo≤100∧vb F.hi≤100:=by
 obtain ⟨L,W,H,M,hL,hW,hH,hM,p1,p2,hf⟩:=XpM l hl
 have g1:=XlV (X22 L W H M) L 10 (Xbk L W H M hW (by omega) (by omega)) p1
 have g2:=XlV (X4w L W H M) L 20 (XaA L W H M hW (by omega) (by omega)) (Xu1 _ _ _ p2)
 have hs:=Xbv L
 exact ⟨_,_,_,_,_,hf,g1.1,g2.1,g1.2.1,g2.2.1,g1.2.2,g2.2.2,hs.1,hs.2,hs.2⟩
def ppC (p:PV×PV):List AV:=pvC p.1 ++ pvC p.2
theorem Xu3 (p:PV×PV):(ppC p).length=50:=rfl
theorem XtE (f:FV):(fvC f).length=29:=rfl
structure GPS (p:PV):Prop where
 gp:∃ t,GP p t
 sm:p.small
theorem XfK (l:List Int) (which n m how b:Int) (hl:XaQ l) (hl2:l.length<9223372036854775808) (hw:X51 which) (hn:X51 n) (hm:X51 m) (hh:X51 how) (hb:X51 b) :
  Fn Tryz.prog 5 [X0f l,I which,I n,I m,I how,I b] (.bool true):=by
 obtain ⟨A,B,F,ta,tb,cP,gA,gB,sA,sB,qa,qb',hF1,hF2,hF3⟩:=Xmg l hl
 have cF:=Xbz A B gA gB
 have hfin:∀ f∈Xcx A B (ta+tb),vb f.turn≤26∧vb f.lo≤200∧vb f.hi≤200:=fun f hf=>(Xcy gA gB (List.mem_filter.1 hf).1).2
 have hlen:(Xcx A B (ta+tb)).length≤24000:=Nat.le_trans (List.length_filter_le _ _) (Xcc A B (ta+tb) (by have:=gA.poly.1; simp [X0Q] at this; omega) (by have:=gB.poly.1; simp [X0Q] at this; omega) (by have:=gA.poly.1; simp [X0Q] at this; omega) (by have:=gB.poly.1; simp [X0Q] at this; omega))
 generalize Xcx A B (ta+tb)=L at *
 obtain ⟨kA,gCA,sCA,_⟩:=X61 gA sA (by omega) n hn
 obtain ⟨kB,gCB,sCB,_⟩:=X61 gB sB (by omega) m hm
 generalize X4T A ta n=CA at *
 generalize X4T B tb m=CB at *
 refine Fq Tryz.call5 Tryz.func5 28 [] [9,100000015,18,190000013,190000022,190000023,19,200000013,200000022,200000023,22,230000022,230000023,23,240000022,240000023] [] (by simp [X08,X07]) (X00 1000 ?_)
 simp (disch:=omega) only [AS.start,↓X0v,wD,↓X03,wA,seval,wE]
 refine X01 cP rfl ?_
 simp (disch:=omega) only [brC,pvC,fvC,List.cons_append,List.nil_append,↓X0v,wD,↓X03,wA,seval,wE]
 refine X01 cF rfl ?_
 obtain ⟨Lc,hLc⟩:∃ Lc,Lc=[(CA,CB),(A,CB),(CB,CA),(A,B)]:=⟨_,rfl⟩
 have w18:Weak (.sl 4 200 (ofL (ppC (CA,CB) ++ (ppC (A,CB) ++ (ppC (CB,CA) ++ ppC (A,B))))) true) (.sl 4 200 (X0M ppC 50 (CA,CB) Lc) false):=by
  rw [hLc]
  exact XaH (Nat.le_refl _) (fun j hj=>X9N ppC 50 (CA,CB) (by omega) Xu3 [(CA,CB),(A,CB),(CB,CA),(A,B)] j hj)
 have b18:Bel 1 (.sl 4 200 (X0M ppC 50 (CA,CB) Lc) false)=True:=eq_true (X06 (X1J fun j hj=>X0c (by
  intro x hx
  rcases List.mem_append.1 hx with h | h <;> exact X0w _ x h) _))
 have w19:∀ f g:FV,Weak (.sl 2 58 (ofL (fvC f ++ fvC g)) true) (.sl 2 58 (X0M fvC 29 fv0 [f,g]) false):=fun f g=>XaH (Nat.le_refl _) (fun j hj=>X9N fvC 29 fv0 (by omega) XtE [f,g] j hj)
 have b19:∀ f g:FV,Bel 1 (.sl 2 58 (X0M fvC 29 fv0 [f,g]) false)=True:=fun f g=>eq_true (X06 (X1J fun j hj=>X0c (X10 _) _))
 have bX:X1j 1 (.con 0 79 (ofL (brC A B F)))=True:=eq_true (fun j _=>X06 (X0c (Xau A B F) _))
 have hgps:∀ i,i<4→GPS (Lc.getD i (CA,CB)).1∧GPS (Lc.getD i (CA,CB)).2:=fun i hi=>by
  have mA:GPS A:=⟨⟨_,gA⟩,sA⟩
  have mB:GPS B:=⟨⟨_,gB⟩,sB⟩
  have mCA:GPS CA:=⟨⟨_,gCA⟩,sCA⟩
  have mCB:GPS CB:=⟨⟨_,gCB⟩,sCB⟩
  rw [hLc]
  match i,hi with
  | 0,_=>exact ⟨mCA,mCB⟩
  | 1,_=>exact ⟨mA,mCB⟩
  | 2,_=>exact ⟨mCB,mCA⟩
  | 3,_=>exact ⟨mA,mB⟩
  | i+4,h=>omega
 apply XyB (X:=X2f Tryz.prog Tryz.f5 [9,100000015,18,190000013,190000022,190000023,19,200000013,200000022,200000023,22,230000022,230000023,23,240000022,240000023] [] (.bool true)) (fun p:FV×FV=>p.1.fine∧p.2.fine)
  (fun p=>⟨28,[],[.any,.any,.any,.any,.any,.any,.any,.any,.any,.any,.any,.any,.bool false,.ref 0 0 0,.any,.any,.any,.any,.sl 4 200 (X0M ppC 50 (CA,CB) Lc) false,.sl 2 58 (X0M fvC 29 fv0 [p.1,p.2]) false,I 0,.any,.any,.any,.any,.any,.any,.any],[],[.con 0 79 (ofL (brC A B F))]⟩)
 case h1 =>
  intro key
  by_cases hL:L.length=0
  ·obtain ⟨G,cG,fG⟩:=XkO F (by omega) (by omega) (by omega) how b hh hb
   simp (disch:=omega) only [X1p,pvA,pvC,fvA,fvC,List.cons_append,List.nil_append,hL,↓X0v,wD,↓X03,wA,seval,wE]
   refine X01 kA rfl ?_
   simp (disch:=omega) only [X1p,pvA,pvC,fvA,fvC,List.cons_append,List.nil_append,↓X0v,wD,↓X03,wA,seval,wE]
   refine X01 kB rfl ?_
   simp (config:={ maxSteps:=2000000 }) (disch:=omega) only [X1p,pvA,pvC,fvA,fvC,List.cons_append,List.nil_append,↓X0v,wD,↓X03,wA,seval,wE]
   refine X01 cG rfl ?_
   simp (disch:=omega) only [X1p,pvA,pvC,fvA,fvC,List.cons_append,List.nil_append,↓X0v,wD,↓X03,wA,seval,wE]
   have fF:F.fine:=⟨by omega,by omega,by omega⟩
   refine (key (F,G) ⟨fF,fG⟩).sub (Sub.trans (X1a 0 rfl) (Sub.trans (X3d 18 _ (by show 18<28; omega) (X2Z w18)) (Sub.trans (X3d 19 _ (by show 19<28; omega) (X2Z (w19 F G))) (X0t (m:=1) (Nat.zero_le _) rfl (by simp [AS.put,X0p,I]) (by simp [AS.put,X0q]) (by simp [brC,pvC,fvC,X0e,X0j,X04,I,sg]) (by simp [b18,b19,X0L]) (by simp [X0L]) (by simp [bX,X0L])))))
  ·have ca:=X1Y which L.length hw (by omega)
   have ba:=X1g which L.length (by omega)
   obtain ⟨x,hx⟩:∃ x:Nat,X0Z which L.length=x:=⟨(X0Z which L.length).toNat,by omega⟩
   rw [hx] at ca ba
   have hm:=hfin (L.getD x fv0) (X2u (by omega))
   have v1:=fF L x
   have v2:=fF0 L x
   generalize L.getD x fv0=f at *
   obtain ⟨G,cG,fG⟩:=XkO f (by omega) (by omega) (by omega) how b hh hb
   simp (disch:=omega) only [X1p,pvA,pvC,fvA,fvC,List.cons_append,List.nil_append,v1,v2,↓X0v,wD,↓X03,wA,seval,wE]
   refine X01 ca rfl ?_
   simp (disch:=omega) only [X1p,pvA,pvC,fvA,fvC,List.cons_append,List.nil_append,v1,v2,↓X0v,wD,↓X03,wA,seval,wE]
   refine X01 kA rfl ?_
   simp (disch:=omega) only [X1p,pvA,pvC,fvA,fvC,List.cons_append,List.nil_append,↓X0v,wD,↓X03,wA,seval,wE]
   refine X01 kB rfl ?_
   simp (config:={ maxSteps:=2000000 }) (disch:=omega) only [X1p,pvA,pvC,fvA,fvC,List.cons_append,List.nil_append,↓X0v,wD,↓X03,wA,seval,wE]
   refine X01 cG rfl ?_
   simp (disch:=omega) only [X1p,pvA,pvC,fvA,fvC,List.cons_append,List.nil_append,↓X0v,wD,↓X03,wA,seval,wE]
   have ff:f.fine:=⟨by omega,by omega,by omega⟩
   refine (key (f,G) ⟨ff,fG⟩).sub (Sub.trans (X1a 0 rfl) (Sub.trans (X3d 18 _ (by show 18<28; omega) (X2Z w18)) (Sub.trans (X3d 19 _ (by show 19<28; omega) (X2Z (w19 f G))) (X0t (m:=1) (Nat.zero_le _) rfl (by simp [AS.put,X0p,I]) (by simp [AS.put,X0q]) (by simp [brC,pvC,fvC,X0e,X0j,X04,I,sg]) (by simp [b18,b19,X0L]) (by simp [X0L]) (by simp [bX,X0L])))))
 rintro ⟨F1,F2⟩ ⟨f1,f2⟩
 simp only at f1 f2
 have b19:=b19 F1 F2
 have hfs:∀ j,j<2→FV.fine ([F1,F2].getD j fv0):=fun j hj=>by
  match j,hj with
  | 0,_=>exact f1
  | 1,_=>exact f2
  | j+2,h=>omega
 simp only
 generalize [F1,F2]=Lf at *
 refine X0d (fun i:Nat=>⟨28,[],[.any,.any,.any,.any,.any,.any,.any,.any,.any,.any,.any,.any,.bool false,.ref 0 0 0,.any,.any,.any,.any,.sl 4 200 (X0M ppC 50 (CA,CB) Lc) false,.sl 2 58 (X0M fvC 29 fv0 Lf) false,I i,.any,.any,.any,.any,.any,.any,.any],[],[.con 0 79 (ofL (brC A B F))]⟩) (fun i=>i≤4) (fun i=>4 - i) 0 (by omega)
  (X09 rfl (by simp [X0p,I]) (by simp [X0q]) rfl) ?_
 intro i hi next
 by_cases hi4:i<4
 rotate_left
 ·refine X00 1000 ?_
  simp (disch:=omega) only [↓X0v,wD,↓X03,wA,seval,wE]
  refine X01 XcH rfl ?_
  simp (disch:=omega) only [↓X0v,wD,↓X03,wA,seval,wE]
  exact X0r rfl rfl (X02 _) rfl
 refine X00 1000 ?_
 simp (disch:=omega) only [↓X0v,wD,↓X03,wA,seval,wE]
 refine X0d (fun j:Nat=>⟨28,[],[.any,.any,.any,.any,.any,.any,.any,.any,.any,.any,.any,.any,.bool false,.ref 0 0 0,.any,.any,.any,.any,.sl 4 200 (X0M ppC 50 (CA,CB) Lc) false,.sl 2 58 (X0M fvC 29 fv0 Lf) false,I i,I j,.any,.any,.any,.any,.any,.any],[],[.con 0 79 (ofL (brC A B F))]⟩) (fun j=>j≤2) (fun j=>2 - j) 0 (by omega)
  (X09 rfl (by simp [X0p,I]) (by simp [X0q]) rfl) ?_
 intro j hj nextj
 by_cases hj2:j<2
 rotate_left
 ·refine X00 1000 ?_
  simp (disch:=omega) only [↓X0v,wD,↓X03,wA,seval,wE]
  exact next (i+1) _ (by omega) (by omega) (X09 rfl (by simp [X0p,I]) (by simp [X0q]) rfl)
 clear next
 obtain ⟨g1,g2⟩:=hgps i hi4
 have hf:=hfs j hj2
 have x1:=X3z ppC 50 (CA,CB) Lc i
 have x2:=X3I ppC 50 (CA,CB) Lc i (by omega)
 have x3:∀ k,k<25→X0M ppC 50 (CA,CB) Lc (i*50+25+k)=(ppC (Lc.getD i (CA,CB))).getD (25+k) .any:=fun k hk=>by rw [Nat.add_assoc]; exact X3z _ _ _ _ _ _ (by omega)
 have y1:=fF Lf j
 have y2:=fF0 Lf j
 generalize Lc.getD i (CA,CB)=p at *
 obtain ⟨a,c⟩:=p
 simp only at g1 g2
 generalize Lf.getD j fv0=f at *
 obtain ⟨⟨sa,ga⟩,s1⟩:=g1
 obtain ⟨⟨sc,gc⟩,s2⟩:=g2
 obtain ⟨l1,l2⟩:=X6s A B f a c gA gB ga gc sA sB s1 s2 hf
 obtain ⟨t1,t2⟩:=Xgd a c f ga gc hf
 have lf:(X5N A B f a c ta tb sa sc).1.fine:=Xjg ga gc hf
 have sf:(X4Y a c f (sa+sc)).1.fine:=Xge ga gc hf
 generalize X5N A B f a c ta tb sa sc=U at *
 generalize X4Y a c f (sa+sc)=V at *
 obtain ⟨U,eU⟩:=U
 obtain ⟨V,eV⟩:=V
 have d1:=XbA U U lf lf
 have d2:=XbA V V sf sf
 rw [decide_eq_true rfl] at d1 d2
 simp only at l1 l2 t1 t2
 refine X00 1000 ?_
 simp (disch:=omega) only [x1,x2,x3,y1,y2,ppC,brC,fvA,pvA,pvC,fvC,List.cons_append,List.nil_append,↓X0v,wD,↓X03,wA,seval,wE]
 refine X01 l1 rfl ?_
 simp (disch:=omega) only [x1,x2,x3,y1,y2,ppC,brC,fvA,pvA,pvC,fvC,List.cons_append,List.nil_append,↓X0v,wD,↓X03,wA,seval,wE]
 refine X01 l2 rfl ?_
 simp (disch:=omega) only [x1,x2,x3,y1,y2,ppC,brC,fvA,pvA,pvC,fvC,List.cons_append,List.nil_append,↓X0v,wD,↓X03,wA,seval,wE]
 refine X01 d1 rfl ?_
 simp (disch:=omega) only [x1,x2,x3,y1,y2,ppC,brC,fvA,pvA,pvC,fvC,List.cons_append,List.nil_append,↓X0v,wD,↓X03,wA,seval,wE]
 refine X01 t1 rfl ?_
 simp (disch:=omega) only [x1,x2,x3,y1,y2,ppC,brC,fvA,pvA,pvC,fvC,List.cons_append,List.nil_append,↓X0v,wD,↓X03,wA,seval,wE]
 refine X01 t2 rfl ?_
 simp (disch:=omega) only [x1,x2,x3,y1,y2,ppC,brC,fvA,pvA,pvC,fvC,List.cons_append,List.nil_append,↓X0v,wD,↓X03,wA,seval,wE]
 refine X01 d2 rfl ?_
 simp (disch:=omega) only [x1,x2,x3,y1,y2,ppC,brC,fvA,pvA,pvC,fvC,List.cons_append,List.nil_append,↓X0v,wD,↓X03,wA,seval,wE]
 exact nextj (j+1) _ (by omega) (by omega) (X0t (m:=1) (Nat.zero_le _) rfl (by simp [X0p,I]) (by simp [X0q]) (by simp [brC,pvC,fvC,X0e,X0j,X04,I,sg]) (by simp [b18,b19,X0L]) (by simp [X0L]) (by simp [bX,X0L]))
end
end Go.Ab.N
