/- Contracts of functions of these chapters, for every argument that fits, and what they need. -/
import Derived.Test.YtefjhgcndhepeaaGreatC10
import Derived.Test.YtefjhgcndhepeaaGreatC9
import Derived.Test.YtefjhgcndhepeaaGreatC7
import Derived.Test.YtefjhgcndhepeaaGreatC6
set_option linter.unusedSimpArgs false
set_option linter.unusedVariables false
open Nat renaming reducePow → Y1, reduceLT → Y2, reduceLeDiff → Y3, reduceEqDiff → Y4, reduceAdd → Y5, reduceMul → Y6, reduceSub → Y7, reduceBEq → Y8, reduceDiv → Y9, reduceMod → YA
namespace Go.Ab.N
open Go Go.RowKit Go.Proofs
noncomputable section
set_option maxRecDepth 10000
set_option maxHeartbeats 4000000
open Classical
def tC (d:Nat×Nat×Nat):List AV:=[I d.1,I d.2.1,I d.2.2]
theorem F7 (d:Nat×Nat×Nat):∀ x∈tC d,Settled x:=by simp [tC,X9]
def ig (l:List (Nat×Nat×Nat)):AV:=qz tC 3 (0,0,0) l
theorem A5 (l:List (Nat×Nat×Nat)):ig l=.sl l.length (l.length*3) (XB tC 3 (0,0,0) l) false:=nrfl rfl
theorem Hr (l:List (Nat×Nat×Nat)):Settled (ig l):=JD fun j _=>Xg (F7 _) _
def HC (L:List V2) (R:List Nat):Nat:=(List.range (R.length - 1)).findIdx (BN L R)
theorem UO (L:List V2) (R:List Nat):HC L R≤R.length - 1:=by
 have:=List.findIdx_le_length (xs:=List.range (R.length - 1)) (p:=BN L R)
 rwa [List.length_range] at this
theorem UN {L:List V2} {R:List Nat} {p:Nat} (h1:p≤R.length - 1) (h2:∀ j,j<p→BN L R j=false) (h3:p=R.length - 1∨BN L R p=true):HC L R=p:=by
 have hle:=UO L R
 rcases Nat.lt_trichotomy (HC L R) p with h | h | h
 ·have:=List.findIdx_getElem (xs:=List.range (R.length - 1)) (p:=BN L R) (w:=by rw [List.length_range]; unfold HC at h; omega)
  rw [List.getElem_range] at this
  have h4:=h2 _ h
  unfold HC at h4
  rw [h4] at this; cases this
 ·exact h
 ·rcases h3 with h3 | h3
  ·omega
  ·have:=List.not_of_lt_findIdx (xs:=List.range (R.length - 1)) (p:=BN L R) (i:=p) h
   rw [List.getElem_range,h3] at this
   exact absurd this (by simp)
def F9 (R:List Nat) (p:Nat):Nat×Nat×Nat:=(nr R (p+R.length - 1),R.getD p 0,nr R (p+R.length+1))
def C4 (L:List V2) (R:List Nat):List Nat:=Zd L (R.length - 1) (R.eraseIdx (HC L R))
def C2 (L:List V2):Nat→List Nat→List (Nat×Nat×Nat)
 | 0,R=>[(R.getD 0 0,R.getD 1 0,R.getD 2 0)]
 | f+1,R=>if 3<R.length then F9 R (HC L R) :: C2 L f (C4 L R) else [(R.getD 0 0,R.getD 1 0,R.getD 2 0)]
def C3 (L:List V2):List (Nat×Nat×Nat):=C2 L L.length (List.range L.length)
theorem dj (L:List V2):∀ (f:Nat) (R:List Nat),Rok L R→R.Nodup→3≤R.length→Rok L (Zd L f R)∧(Zd L f R).Nodup∧3≤(Zd L f R).length∧(Zd L f R).length≤R.length
 | 0,R,h,hd,h3=>⟨h,hd,h3,Nat.le_refl _⟩
 | f+1,R,h,hd,h3=>by
  unfold Zd
  split
  ·rename_i hc
   have hl:(R.eraseIdx (KK L R)).length=R.length - 1:=by rw [List.length_eraseIdx,if_pos hc.2]
   obtain ⟨a1,a2,a3,a4⟩:=dj L f _ (Bl h hc.1 hc.2) (hd.eraseIdx _) (by omega)
   exact ⟨a1,a2,a3,by omega⟩
  ·exact ⟨h,hd,h3,Nat.le_refl _⟩
theorem DS {L:List V2} {R:List Nat} (h:Rok L R) (hd:R.Nodup) (h3:3<R.length):Rok L (C4 L R)∧(C4 L R).Nodup∧3≤(C4 L R).length∧(C4 L R).length≤R.length - 1:=by
 have hp:HC L R<R.length:=by have:=UO L R; omega
 have hl:(R.eraseIdx (HC L R)).length=R.length - 1:=by rw [List.length_eraseIdx,if_pos hp]
 obtain ⟨a1,a2,a3,a4⟩:=dj L (R.length - 1) _ (Bl h h3 hp) (hd.eraseIdx _) (by omega)
 exact ⟨a1,a2,a3,by unfold C4; omega⟩
theorem Mx (L:List V2):∀ (f g:Nat) (R:List Nat),Rok L R→R.Nodup→R.length≤f→R.length≤g→C2 L f R=C2 L g R
 | 0,g,R,h,_,hf,_=>by have:=h.pos; omega
 | f+1,0,R,h,_,_,hg=>by have:=h.pos; omega
 | f+1,g+1,R,h,hd,hf,hg=>by
  unfold C2
  split
  ·rename_i h3
   obtain ⟨a1,a2,a3,a4⟩:=DS h hd h3
   rw [Mx L f g _ a1 a2 (by omega) (by omega)]
  ·rfl
theorem UJ {L:List V2} {R:List Nat} (h:Rok L R) (hd:R.Nodup) (h3:3<R.length):C2 L R.length R=F9 R (HC L R) :: C2 L (C4 L R).length (C4 L R):=by
 obtain ⟨a1,a2,a3,a4⟩:=DS h hd h3
 cases hl:R.length with
 | zero=>omega
 | succ n =>
  show (if 3<R.length then _ else _)=_
  rw [if_pos h3,Mx L n (C4 L R).length _ a1 a2 (by omega) (Nat.le_refl _)]
theorem Pj {L:List V2} {R:List Nat} (h3:¬ 3<R.length) (f:Nat):C2 L f R=[(R.getD 0 0,R.getD 1 0,R.getD 2 0)]:=by
 cases f with
 | zero=>rfl
 | succ n=>unfold C2; rw [if_neg h3]
theorem Ao {L:List V2} (h:3≤L.length) (hl:L.length<1000000):Rok L (List.range L.length):=⟨by rw [List.length_range]; omega,by rw [List.length_range]; omega,fun j=>by
 rw [List.getD_eq_getElem?_getD]
 by_cases hj:j<L.length
 ·rw [List.getElem?_range hj]; exact hj
 ·rw [List.getElem?_eq_none (by rw [List.length_range]; omega)]; show 0<L.length; omega,hl⟩
theorem VC {P:Program} {fn:Func} {str hcs:List Nat} {s:AS} {t u id ver:Nat} {e:AV} (D:List (Nat×Nat×Nat)) (hr:fn.results=#[.tmp t,.tmp u]) (hs:s.get t=.osl id ver 3 0 D.length) (ho:s.h[id]?=some (.row ver (D.length*3) (XB tC 3 (0,0,0) D))) (hu:s.get u=e) (he:Settled e):RetOk (Qn P fn str hcs (.tup [ig D,e])) s:=by
 refine RD hr (Zk ⟨?_,QC he hu,trivial⟩)
 rw [hs,A5]
 refine Qv (.inl ho) (by omega) (fun h=>by rw [h]) fun j hj=>?_
 rw [Nat.zero_add]
 exact (Xg (F7 _) _).sees _
theorem Ou (c:Nat×Nat×Nat):∀ j,j<3→((tC c).getD j .any).one=true:=fun j hj=>by
 match j,hj with
 | 0,_=>rfl
 | 1,_=>rfl
 | 2,_=>rfl
 | j+3,h=>omega
theorem kB (L:List V2) (k:Nat) (hs:XV L k) (hk:k≤1000) (hp:Am L):Fn Tryz.prog 263 [Xp L] (.tup [ig (C3 L),I 0]):=by
 have hl:=hp.1
 have cv:=Nd L (fun i=>Nat.le_trans (hs i) hk) (by omega)
 rw [decide_eq_true hp] at cv
 have ca:=oK L (by omega)
 obtain ⟨T,hT⟩:∃ T,T=C3 L:=⟨_,rfl⟩
 rw [← hT]
 have h0:=Ao hl.1 (by omega)
 have d0:(List.range L.length).Nodup:=List.nodup_range
 refine Fq Tryz.call263 Tryz.func263 7 [] [] [3,9] (by simp [Xd]) (X1 1000 ?_)
 simp only [AS.start,↓X2,wA,seval,wE]
 refine X0 cv rfl ?_
 simp only [↓X2,wA,seval,wE]
 refine DP rfl ca (Jo (fun o h=>absurd h (List.not_mem_nil)) (fun o ho=>((Kr _ _ _).2 o ho).2.2)) (fun id=>by simp) (Q9 _) ?_
 have hlr:(List.range L.length).length=L.length:=List.length_range
 have hTc:T=C2 L (List.range L.length).length (List.range L.length):=by rw [hT,hlr]; rfl
 generalize hN:2*L.length=N
 generalize List.range L.length=R0 at *
 simp only [J6,↓X2,wA,seval,wE]
 refine Xe (fun w:List (Nat×Nat×Nat)×List Nat=>⟨7,[],[Xp L,.any,.any,.any,.ref 0 0 0,.osl 2 w.1.length 3 0 w.1.length,.any],[],Ls L N w.2 ++ [.row w.1.length (w.1.length*3) (XB tC 3 (0,0,0) w.1)]⟩) (fun w=>Rok L w.2∧w.2.Nodup∧3≤w.2.length∧w.1.length+w.2.length≤L.length∧w.1 ++ C2 L w.2.length w.2=T) (fun w=>w.2.length) ([],R0) ⟨h0,d0,by show 3≤R0.length; omega,by simp [hlr],by rw [hTc]; rfl⟩
  (Sub.trans (Q7 5 3 (XB tC 3 (0,0,0) []) rfl) (Xa rfl (by simp [AS.put,Xh]) (by simp [AS.put,Xi]) (by simp [AS.put,J6]))) ?_
 rintro ⟨D,R⟩ ⟨h,hd,h3,hDl,hDT⟩ next
 replace h:Rok L R:=h
 replace hd:R.Nodup:=hd
 replace h3:3≤R.length:=h3
 replace hDl:D.length+R.length≤L.length:=hDl
 replace hDT:D ++ C2 L R.length R=T:=hDT
 have hNR:R.length≤N:=by omega
 by_cases h4:3<R.length
 rotate_left
 ·have e3:R.length=3:=by omega
  rw [Pj h4] at hDT
  have hap:=XQ tC 3 (0,0,0) D (R.getD 0 0,R.getD 1 0,R.getD 2 0) (by omega)
  rw [hDT] at hap
  have hTl:T.length=D.length+1:=by rw [← hDT]; simp
  refine X1 1000 ?_
  simp (disch:=omega) only [J6,List.cons_append,List.nil_append,B7,KS,wD,↓X2,wA,seval,wE]
  exact ⟨Ou (R.getD 0 0,R.getD 1 0,R.getD 2 0),VC T rfl (by rw [hTl]; rfl) (by rw [hTl,← hap]; rfl) rfl (X9 _)⟩
 have hgo:=UJ h hd h4
 obtain ⟨b1,b2,b3,b4⟩:=DS h hd h4
 refine X1 1000 ?_
 simp (disch:=omega) only [J6,List.cons_append,List.nil_append,wD,↓X2,wA,seval,wE]
 refine Xe (fun p:Nat=>⟨7,[],[Xp L,.any,.any,.any,.ref 0 0 0,.osl 2 D.length 3 0 D.length,I p],[],Ls L N R ++ [.row D.length (D.length*3) (XB tC 3 (0,0,0) D)]⟩) (fun p=>p≤R.length - 1∧∀ j,j<p→BN L R j=false) (fun p=>R.length - p) 0 ⟨by omega,fun j hj=>absurd hj (Nat.not_lt_zero j)⟩
  (Xa rfl (by simp [Xh,I]) (by simp [Xi]) (by simp [J6])) ?_
 rintro p ⟨hp1,hno⟩ next2
 have hn:=h.len
 have ce:=pq L R p k h (by omega) hs (by omega)
 have cc:=pi L N R p k h hd hNR h4 (by omega) hs (by omega)
 have hlr:(R.eraseIdx p).length=R.length - 1:=by rw [List.length_eraseIdx,if_pos (by omega)]
 by_cases hgo2:p<R.length - 1∧BN L R p=false
 ·refine X1 1000 ?_
  simp (disch:=omega) only [J6,List.cons_append,List.nil_append,wD,↓X2,wA,seval,wE]
  refine JP ce rfl ⟨I4,QC (X9 _) rfl,trivial⟩ (Bi _) ?_
  simp (disch:=omega) only [hgo2.2,J6,List.cons_append,List.nil_append,wD,↓X2,wA,seval,wE]
  exact next2 (p+1) _ ⟨by omega,JR.2 ⟨hno,hgo2.2⟩⟩ (by omega) (Xa rfl (by simp [Xh,I]) (by simp [Xi]) (by simp [J6]))
 have hep:HC L R=p:=UN hp1 hno (by
  by_cases h1:p=R.length - 1
  ·exact .inl h1
  ·right
   cases he:BN L R p with
   | true=>rfl
   | false=>exact absurd ⟨by omega,he⟩ hgo2)
 have hD:(D ++ [F9 R p]) ++ C2 L (C4 L R).length (C4 L R)=T:=by rw [← hDT,hgo,hep,List.append_assoc]; rfl
 have hap:=XQ tC 3 (0,0,0) D (F9 R p) (by omega)
 have hcs:Zd L (R.length - 1) (R.eraseIdx p)=C4 L R:=by unfold C4; rw [hep]
 rw [hcs] at cc
 have hDn:(D ++ [F9 R p]).length=D.length+1:=by simp
 have nx:=next (D ++ [F9 R p],C4 L R)
 rw [List.length_append,List.length_singleton] at nx
 have htr:tC (F9 R p)=[I (nr R (p+R.length - 1)),I (R.getD p 0:Nat),I (nr R (p+R.length+1))]:=rfl
 have hone:=Ou (F9 R p)
 rw [htr] at hap hone
 generalize D ++ [F9 R p]=D2 at *
 generalize C4 L R=R2 at *
 generalize nr R (p+R.length - 1)=a at *
 generalize nr R (p+R.length+1)=c at *
 generalize R.getD p 0=b at *
 clear hgo hcs htr
 have bR:∀ a∈[AV.ref 0 0 0,I p],Jj 2 a:=fun a ha=>by
  simp only [List.mem_cons,List.not_mem_nil,or_false] at ha
  rcases ha with rfl | rfl
  ·have:Jj 2 (.ref 0 0 0)=True:=by simp [Xx]
   exact this▸trivial
  ·exact X6 (X9 _)
 refine X1 1000 ?_
 by_cases hl:p<R.length - 1
 have he:BN L R p=true:=by
  cases he:BN L R p with
  | true=>rfl
  | false=>exact absurd ⟨hl,he⟩ hgo2
 simp (disch:=omega) only [J6,List.cons_append,List.nil_append,wD,↓X2,wA,seval,wE]
 refine JP ce rfl ⟨I4,QC (X9 _) rfl,trivial⟩ (Bi _) ?_
 simp (disch:=omega) only [he,J6,List.cons_append,List.nil_append,wD,↓X2,wA,seval,wE]
 rotate_left
 simp (disch:=omega) only [J6,List.cons_append,List.nil_append,wD,↓X2,wA,seval,wE]
 all_goals
  refine Ah (H1:=Ls L N R) (H1':=Ls L N R2) (rest:=[.row D.length (D.length*3) (XB tC 3 (0,0,0) D)]) rfl cc rfl rfl bR (fun o ho=>((Kr L N R).2 o ho).1) (fun o ho=>((Kr L N _).2 o ho).2.1) (fun o ho=>((Kr L N _).2 o ho).2.1) (Jo (fun o ho=>((Kr L N _).2 o ho).2.2) (fun o ho=>((Kr L N _).2 o ho).2.2)) (Q9 _) ?_
  simp (disch:=omega) only [J6,List.cons_append,List.nil_append,wD,↓X2,wA,seval,wE]
  exact ⟨hone,nx _ ⟨b1,b2,b3,by show D.length+1+R2.length≤L.length; omega,hD⟩ (by show R2.length<R.length; omega) (Xa rfl (by simp [Xh]) (by simp [Xi]) (by rw [← hap]; simp [J6,I]))⟩
theorem mq (L:List V2) (R:List Nat) (p k:Nat) (h:Rok L R) (hp:p<R.length) (hs:XV L k) (hk:k≤10000):Fn Tryz.prog 277 [Xp L,az R,I p] (.bool (BN L R p)):=by
 have c1:=RH L R p k h hp hs hk
 have c2:=E0 R p (-1) (p+R.length - 1) h.pos h.len (by have:=h.pos; omega) (by have:=h.len; omega) (by omega) (by omega)
 have c3:=E0 R p 1 (p+R.length+1) h.pos h.len (by omega) (by have:=h.len; omega) (by omega) (by omega)
 obtain ⟨h0,hn,hmem,hL⟩:=h
 have m1:=hmem ((p+R.length - 1) % R.length)
 have m2:=hmem ((p+R.length+1) % R.length)
 have m3:=hmem p
 change nr R (p+R.length - 1)<L.length at m1
 change nr R (p+R.length+1)<L.length at m2
 have hear:BN L R p=decide (0<HH L R p∧∀ j,j<R.length→Bu L (nr R (p+R.length - 1)) (R.getD p 0) (nr R (p+R.length+1)) (R.getD j 0)):=rfl
 generalize BN L R p=E at *
 generalize HH L R p=S at *
 generalize nr R (p+R.length - 1)=a at *
 generalize nr R (p+R.length+1)=c at *
 have v2:=B7 R p
 generalize R.getD p 0=b at *
 have f1:((p:Int)<R.length)=True:=eq_true (by omega)
 have f2:(p<R.length)=True:=eq_true hp
 have f3:(p+1≤R.length)=True:=eq_true (by omega)
 have a1:((a:Int)<L.length)=True:=eq_true (by omega)
 have a2:(a<L.length)=True:=eq_true m1
 have a3:(a*8+8≤L.length*8)=True:=eq_true (by omega)
 have b1:((b:Int)<L.length)=True:=eq_true (by omega)
 have b2:(b<L.length)=True:=eq_true m3
 have b3:(b*8+8≤L.length*8)=True:=eq_true (by omega)
 have e1:((c:Int)<L.length)=True:=eq_true (by omega)
 have e2:(c<L.length)=True:=eq_true m2
 have e3:(c*8+8≤L.length*8)=True:=eq_true (by omega)
 have va:=vF L a
 have vb:=vF L b
 have vc:=vF L c
 refine Fq Tryz.call277 Tryz.func277 12 [] [] [] (by simp [Xd,ZH,X9]) (X1 1000 ?_)
 simp only [AS.start,QI,X5,X4,↓X2,wA,seval,wE]
 refine X0 c1 rfl ?_
 by_cases hS:S≤0
 ·have g1:(S≤0)=True:=eq_true hS
  have hE:E=false:=by rw [hear]; exact decide_eq_false fun hh=>by omega
  simp only [QI,X5,X4,g1,↓X2,wA,seval,wE]
  exact Xs (v:=.bool false) rfl rfl (X3 _) (by rw [hE])
 have g1:(S≤0)=False:=eq_false hS
 simp only [QI,X5,X4,g1,↓X2,wA,seval,wE]
 refine X0 c2 rfl ?_
 simp only [QI,X5,X4,Xm,f1,f2,f3,v2,Int.toNat_natCast,↓X2,wA,seval,wE]
 refine X0 c3 (by simp only [QI,X4,Xm]; rfl) ?_
 simp only [QI,X5,X4,Xm,↓X2,wA,seval,wE]
 have sA:=hs a
 have sB:=hs b
 have sC:=hs c
 generalize hA:L.getD a v0=A at *
 generalize hB:L.getD b v0=B at *
 generalize hC:L.getD c v0=C at *
 have hfree:∀ q,Bu L a b c q=(q=a∨q=c∨q=b∨¬ j8 A B C (L.getD q v0)):=fun q=>by unfold Bu; rw [hA,hB,hC]
 refine Xe (fun j:Nat=>⟨12,[],[Xp L,.any,.any,.any,.ref 0 0 0,.any,.any,I a,I b,I c,I j,.any],[],[.row 0 1 (Xq [X8 (zs R)])]⟩) (fun j=>j≤R.length∧∀ i,i<j→Bu L a b c (R.getD i 0)) (fun j=>R.length - j) 0 ⟨by omega,fun i hi=>absurd hi (Nat.not_lt_zero i)⟩
  (Xa rfl (by simp [Xh,X5,X4,Xm,I]) (by simp [Xi]) (by simp [X4,Xm])) ?_
 rintro j ⟨hj,hno⟩ next
 have w1:=wj j (by omega)
 by_cases hj2:j<R.length
 rotate_left
 ·obtain rfl:j=R.length:=by omega
  have hE:E=true:=by rw [hear]; exact decide_eq_true ⟨by omega,hno⟩
  refine X1 1000 ?_
  simp only [X5,X4,Xm,Int.lt_irrefl,Nat.lt_irrefl,↓X2,wA,seval,wE]
  exact Xs (v:=.bool true) rfl rfl (X3 _) (by rw [hE])
 have k1:((j:Int)<R.length)=True:=eq_true (by omega)
 have k2:(j<R.length)=True:=eq_true hj2
 have k3:(j+1≤R.length)=True:=eq_true (by omega)
 have v3:=B7 R j
 have m4:=hmem j
 have nx:=next (j+1)
 have hgo:=fun hfr=>JR.2 (show (∀ i,i<j→Bu L a b c (R.getD i 0))∧Bu L a b c (R.getD j 0) from ⟨hno,hfr⟩)
 have hstop:¬ Bu L a b c (R.getD j 0)→E=false:=fun hb=>by rw [hear]; exact decide_eq_false fun hh=>hb (hh.2 j hj2)
 rw [hfree] at hgo hstop
 generalize R.getD j 0=q at *
 have sQ:=hs q
 have x1:((q:Int)<L.length)=True:=eq_true (by omega)
 have x2:(q<L.length)=True:=eq_true m4
 have x3:(q*8+8≤L.length*8)=True:=eq_true (by omega)
 have vq:=vF L q
 generalize hQ:L.getD q v0=Q at *
 have cin:=qv A B C Q (by unfold vs; omega) (by unfold vs; omega) (by unfold vs; omega) (by unfold vs; omega)
 by_cases q1:q=a
 ·have g1:((q:Int)=(a:Int))=True:=eq_true (by omega)
  refine X1 1000 ?_
  simp only [X5,X4,Xm,w1,k1,k2,k3,v3,g1,Int.toNat_natCast,↓X2,wA,seval,wE]
  exact nx _ ⟨by omega,hgo (.inl q1)⟩ (by omega) (Xa rfl (by simp [Xh,X5,X4,Xm,I]) (by simp [Xi]) (by simp [X4,Xm]))
 have g1':((q:Int)=(a:Int))=False:=eq_false (by omega)
 by_cases q3:q=b
 ·have g3:((q:Int)=(b:Int))=True:=eq_true (by omega)
  refine X1 1000 ?_
  simp only [X5,X4,Xm,w1,k1,k2,k3,v3,g1',g3,Int.toNat_natCast,↓X2,wA,seval,wE]
  exact nx _ ⟨by omega,hgo (.inr (.inr (.inl q3)))⟩ (by omega) (Xa rfl (by simp [Xh,X5,X4,Xm,I]) (by simp [Xi]) (by simp [X4,Xm]))
 have g3':((q:Int)=(b:Int))=False:=eq_false (by omega)
 by_cases q2:q=c
 ·have g2:((q:Int)=(c:Int))=True:=eq_true (by omega)
  refine X1 1000 ?_
  simp only [X5,X4,Xm,w1,k1,k2,k3,v3,g1',g3',g2,Int.toNat_natCast,↓X2,wA,seval,wE]
  exact nx _ ⟨by omega,hgo (.inr (.inl q2))⟩ (by omega) (Xa rfl (by simp [Xh,X5,X4,Xm,I]) (by simp [Xi]) (by simp [X4,Xm]))
 have g2':((q:Int)=(c:Int))=False:=eq_false (by omega)
 refine X1 1000 ?_
 simp only [X5,X4,Xm,w1,k1,k2,k3,v3,g1',g3',g2',a1,a2,a3,b1,b2,b3,e1,e2,e3,x1,x2,x3,va,vb,vc,vq,Int.toNat_natCast,↓X2,wA,seval,wE]
 refine X0 cin rfl ?_
 by_cases hin:j8 A B C Q
 ·have hE:E=false:=hstop (by
   rintro (e | e | e | e)
   ·exact q1 e
   ·exact q2 e
   ·exact q3 e
   ·exact e hin)
  simp only [decide_eq_true hin,↓X2,wA,seval,wE]
  exact Xs (v:=.bool false) rfl rfl (X3 _) (by rw [hE])
 ·simp only [decide_eq_false hin,X5,X4,Xm,w1,↓X2,wA,seval,wE]
  exact nx _ ⟨by omega,hgo (.inr (.inr (.inr hin)))⟩ (by omega) (Xa rfl (by simp [Xh,X5,X4,Xm,I]) (by simp [Xi]) (by simp [X4,Xm]))
theorem iJ (n:Nat) (hn:n<1000000):Fn Tryz.prog 276 [I n] (az (List.range n)):=by
 refine Fq Tryz.call276 Tryz.func276 5 [] [] [] (by simp [X9]) (X1 1000 ?_)
 simp only [AS.start,↓X2,wA,seval,wE]
 refine Xe (fun i:Nat=>⟨5,[],[I n,.any,.ref 0 0 0,.ref 1 0 0,I i],[],[.row 0 1 (Xq [.sl 0 0 (fun _=>.any) true]),.row 0 1 (Xq [.osl 2 i 1 0 i]),.row i i (Q1 I 0 (zs (List.range i)))]⟩) (fun i=>i≤n) (fun i=>n - i) 0 (by omega)
  (Sub.trans (QN 1 1 (fun _=>.sl 0 0 (fun _=>.any) true) rfl (Nat.le_refl _) (fun j hj=>by have e:j=0:=Nat.lt_one_iff.1 hj; subst e; rfl)) ((BJ 1 1 (Q1 I 0 []) rfl 1 (Nat.le_refl _)).trans ((QN 1 1 (Xq [.osl 2 0 1 0 0]) rfl (Nat.le_refl _) (fun j hj=>by have e:j=0:=Nat.lt_one_iff.1 hj; subst e; rfl)).trans (Xa rfl (by simp [Xh,I]) (by simp [Xi]) (by simp [zs]))))) ?_
 intro i hi next
 have w1:=wj i (by omega)
 by_cases hi2:i<n
 rotate_left
 ·obtain rfl:i=n:=by omega
  refine X1 1000 ?_
  simp only [Int.lt_irrefl,Nat.lt_irrefl,↓X2,wA,seval,wE]
  have hz:=Ef (l:=zs (List.range i)) (H:=[.row 0 1 (Xq [.osl 2 i 1 0 i]),.row 0 1 (Xq [.osl 2 i 1 0 i]),.row i i (Q1 I 0 (zs (List.range i)))]) (id:=2) (ver:=i) (n:=i) rfl (by rw [Xm,List.length_range]; exact Nat.le_refl _)
  rw [Xm,List.length_range] at hz
  exact BF (v:=.agg [.osl 2 i 1 0 i]) rfl (by simp [AS.get,Jv,O2,rd,Qm,Xq,ZU]) (ZZ ⟨hz,trivial⟩)
 have f1:((i:Int)<n)=True:=eq_true (by omega)
 have nx:=next (i+1)
 rw [ED] at nx
 have hz:(zs (List.range i)).length=i:=by rw [Xm,List.length_range]
 generalize zs (List.range i)=Z at *
 have hap:=Cv Z (i:Int)
 rw [hz] at hap
 refine X1 1000 ?_
 simp only [w1,f1,Int.toNat_natCast,↓X2,wA,seval,wE]
 exact ⟨⟨by omega,by omega⟩,nx _ (by omega) (by omega) (Xa rfl (by simp [Xh,I]) (by simp [Xi]) (by rw [← hap]))⟩
theorem PE {L:List V2} {R:List Nat} {p:Nat} (h1:p≤R.length) (h2:∀ j,j<p→HH L R j≠0) (h3:p=R.length∨HH L R p=0):KK L R=p:=by
 have hle:=IR L R
 rcases Nat.lt_trichotomy (KK L R) p with h | h | h
 ·exact absurd (MH (by omega)) (h2 _ h)
 ·exact h
 ·rcases h3 with h3 | h3
  ·omega
  ·exact absurd h3 (IU h)
theorem p9 {L:List V2} {R:List Nat} (h3:3<R.length) (hq:KK L R<R.length):Zd L R.length R=Zd L (R.eraseIdx (KK L R)).length (R.eraseIdx (KK L R)):=by
 rw [List.length_eraseIdx,if_pos hq]
 cases hl:R.length with
 | zero=>omega
 | succ n =>
  show (if 3<R.length∧KK L R<R.length then Zd L n (R.eraseIdx (KK L R)) else R)=_
  rw [if_pos ⟨h3,hq⟩]; rfl
theorem UH {L:List V2} {R:List Nat} (h:¬ (3<R.length∧KK L R<R.length)):Zd L R.length R=R:=by
 cases hl:R.length with
 | zero=>rfl
 | succ n=>unfold Zd; rw [if_neg h]
theorem Tj (L:List V2) (R0:List Nat) (k:Nat) (h:Rok L R0) (hs:XV L k) (hk:k≤10000):Fn Tryz.prog 279 [Xp L,az R0] (az (Zd L R0.length R0)):=by
 refine Fq Tryz.call279 Tryz.func279 6 [] [] [] (by simp [Xd,ZH]) (X1 1000 ?_)
 simp only [AS.start,QI,X4,X5,↓X2,wA,seval,wE]
 refine Xe (fun w:List Nat×Nat=>⟨6,[],[Xp L,.any,.any,.ref 0 0 0,.ref 1 0 0,I w.2],[],[.row 0 1 (Xq [X8 (zs w.1)]),.row 0 1 (Xq [.sl 0 0 (fun _=>.any) true])]⟩) (fun w=>Rok L w.1∧w.2≤w.1.length∧(∀ j,j<w.2→HH L w.1 j≠0)∧Zd L w.1.length w.1=Zd L R0.length R0) (fun w=>2000000*w.1.length+(1000000 - w.2)) (R0,0) ⟨h,Nat.zero_le _,fun j hj=>absurd hj (Nat.not_lt_zero j),rfl⟩
  (Sub.trans (QN 1 1 (Xq [.sl 0 0 (fun _=>.any) true]) rfl (Nat.le_refl _) (fun j hj=>by have e:j=0:=Nat.lt_one_iff.1 hj; subst e; rfl)) (Xa rfl (by simp [Xh,X5,I]) (by simp [Xi]) (by simp [X4,Xm]))) ?_
 rintro ⟨R,p⟩ ⟨hR,hp,hno,hcl⟩ next
 replace hR:Rok L R:=hR
 replace hp:p≤R.length:=hp
 replace hno:∀ j,j<p→HH L R j≠0:=hno
 replace hcl:Zd L R.length R=Zd L R0.length R0:=hcl
 have hn:=hR.len
 have w1:=wj p (by omega)
 by_cases hgo:3<R.length∧p<R.length
 rotate_left
 ·have e:Zd L R.length R=R:=by
   by_cases h3:3<R.length
   ·exact UH fun hh=>by rw [PE hp hno (.inl (by omega))] at hh; omega
   ·exact UH fun hh=>h3 hh.1
  rw [e] at hcl
  rw [← hcl]
  have fin:∀ {s:AS},s.get 4=.ref 1 0 0→s.h=[.row 0 1 (Xq [X8 (zs R)]),.row 0 1 (Xq [X8 (zs R)])]→RetOk (Qn Tryz.prog Tryz.f279 [] [] (az R)) s:=fun h1 h2=>by
   refine BF (v:=.agg [X8 (zs R)]) rfl ?_ ?_
   ·rw [h1,h2]; simp [Jv,O2,rd,Qm,Xq,ZU]
   ·exact (ZH R).sees _
  by_cases h3:3<R.length
  ·obtain rfl:p=R.length:=by omega
   have f1:((3:Int)<R.length)=True:=eq_true (by omega)
   refine X1 1000 ?_
   simp only [X5,X4,Xm,f1,Int.lt_irrefl,Nat.lt_irrefl,↓X2,wA,seval,wE]
   exact fin rfl (by simp [X4,Xm])
  ·have f1:((3:Int)<R.length)=False:=eq_false (by omega)
   refine X1 1000 ?_
   simp only [X5,X4,Xm,f1,↓X2,wA,seval,wE]
   exact fin rfl (by simp [X4,Xm])
 obtain ⟨h3,hp2⟩:=hgo
 have cs:=RH L R p k hR hp2 hs hk
 have cw:=LS R p hn (by omega)
 rw [QI,X4,Xm] at cs cw
 have f1:((3:Int)<R.length)=True:=eq_true (by omega)
 have f2:((p:Int)<R.length)=True:=eq_true (by omega)
 by_cases hz:HH L R p=0
 ·have g1:(HH L R p=0)=True:=eq_true hz
  have hf:=PE hp hno (.inr hz)
  have hg:=p9 (L:=L) h3 (by rw [hf]; exact hp2)
  rw [hf,hcl] at hg
  have hl:(R.eraseIdx p).length=R.length - 1:=by rw [List.length_eraseIdx,if_pos hp2]
  have nx:=next (R.eraseIdx p,0)
  refine X1 1000 ?_
  simp only [X5,X4,Xm,f1,f2,w1,↓X2,wA,seval,wE]
  refine X0 cs rfl ?_
  simp only [X5,X4,Xm,g1,↓X2,wA,seval,wE]
  refine X0 cw rfl ?_
  simp only [QI,X5,X4,Xm,↓X2,wA,seval,wE]
  exact nx _ ⟨Bl hR h3 hp2,Nat.zero_le _,fun j hj=>absurd hj (Nat.not_lt_zero j),hg.symm⟩ (by show 2000000*(R.eraseIdx p).length+(1000000 - 0)<2000000*R.length+(1000000 - p); omega) (Xa rfl (by simp [Xh,X5,I]) (by simp [Xi]) (by simp [X4,Xm]))
 ·have g1:(HH L R p=0)=False:=eq_false hz
  have nx:=next (R,p+1)
  refine X1 1000 ?_
  simp only [X5,X4,Xm,f1,f2,w1,↓X2,wA,seval,wE]
  refine X0 cs rfl ?_
  simp only [X5,X4,Xm,g1,w1,↓X2,wA,seval,wE]
  exact nx _ ⟨hR,hp2,fun j hj=>by
    rcases Nat.lt_succ_iff_lt_or_eq.1 hj with h | h
    ·exact hno j h
    ·exact h▸hz,hcl⟩ (by show 2000000*R.length+(1000000 - (p+1))<2000000*R.length+(1000000 - p); omega) (Xa rfl (by simp [Xh,X5,I]) (by simp [Xi]) (by simp [X4,Xm]))
theorem mo (L:List V2) (k:Nat) (hs:XV L k) (hk:k≤1000) (hp:XN L):Fn Tryz.prog 264 [Xp L] (.tup [ig (C3 L),I 0]):=by
 have hl:=(Kd L hp).1
 have cv:=FZ L (fun i=>Nat.le_trans (hs i) hk) (by omega)
 rw [decide_eq_true hp] at cv
 have ca:=iJ L.length (by omega)
 obtain ⟨T,hT⟩:∃ T,T=C3 L:=⟨_,rfl⟩
 rw [← hT]
 have h0:=Ao hl.1 (by omega)
 have d0:(List.range L.length).Nodup:=List.nodup_range
 have hlr:(List.range L.length).length=L.length:=List.length_range
 have hTc:T=C2 L (List.range L.length).length (List.range L.length):=by rw [hT,hlr]; rfl
 have s0:∀ l,XI 2 (.row 0 1 (Xq [X8 l]))=True:=fun l=>eq_true (XG (by simp [X7]))
 have s1:∀ v n l,XI 2 (.row v n (XB tC 3 (0,0,0) l))=True:=fun v n l=>eq_true fun j _=>X6 (Xg (F7 _) _)
 refine Fq Tryz.call264 Tryz.func264 7 [] [9,10001,10005,10009,11,120000004] [] (by simp [Xd]) (X1 1000 ?_)
 simp only [AS.start,X5,↓X2,wA,seval,wE]
 refine X0 cv rfl ?_
 simp only [X5,↓X2,wA,seval,wE]
 refine X0 ca rfl ?_
 generalize List.range L.length=R0 at *
 simp only [X5,QI,X4,Xm,↓X2,wA,seval,wE]
 refine Xe (fun w:List (Nat×Nat×Nat)×List Nat=>⟨7,[],[Xp L,.any,.any,.any,.ref 0 0 0,.osl 1 w.1.length 3 0 w.1.length,.any],[],[.row 0 1 (Xq [X8 (zs w.2)]),.row w.1.length (w.1.length*3) (XB tC 3 (0,0,0) w.1)]⟩) (fun w=>Rok L w.2∧w.2.Nodup∧3≤w.2.length∧w.1.length+w.2.length≤L.length∧w.1 ++ C2 L w.2.length w.2=T) (fun w=>w.2.length) ([],R0) ⟨h0,d0,by show 3≤R0.length; omega,by simp [hlr],by rw [hTc]; rfl⟩
  (Sub.trans (Q7 5 3 (XB tC 3 (0,0,0) []) rfl) (Xa rfl (by simp [AS.put,Xh,X5]) (by simp [AS.put,Xi]) (by simp [AS.put,X4,Xm]))) ?_
 rintro ⟨D,R⟩ ⟨h,hd,h3,hDl,hDT⟩ next
 replace h:Rok L R:=h
 replace hd:R.Nodup:=hd
 replace h3:3≤R.length:=h3
 replace hDl:D.length+R.length≤L.length:=hDl
 replace hDT:D ++ C2 L R.length R=T:=hDT
 by_cases h4:3<R.length
 rotate_left
 ·have e3:R.length=3:=by omega
  rw [Pj h4] at hDT
  have hap:=XQ tC 3 (0,0,0) D (R.getD 0 0,R.getD 1 0,R.getD 2 0) (by omega)
  rw [hDT] at hap
  have hTl:T.length=D.length+1:=by rw [← hDT]; simp
  refine X1 1000 ?_
  simp (disch:=omega) only [X5,X4,Xm,B7,KS,wD,↓X2,wA,seval,wE]
  exact ⟨Ou (R.getD 0 0,R.getD 1 0,R.getD 2 0),VC T rfl (by rw [hTl]; rfl) (by rw [hTl,← hap]; rfl) rfl (X9 _)⟩
 have hgo:=UJ h hd h4
 obtain ⟨b1,b2,b3,b4⟩:=DS h hd h4
 have hn:=h.len
 refine X1 1000 ?_
 simp (disch:=omega) only [X5,X4,Xm,wD,↓X2,wA,seval,wE]
 refine Xe (fun p:Nat=>⟨7,[],[Xp L,.any,.any,.any,.ref 0 0 0,.osl 1 D.length 3 0 D.length,I p],[],[.row 0 1 (Xq [X8 (zs R)]),.row D.length (D.length*3) (XB tC 3 (0,0,0) D)]⟩) (fun p=>p≤R.length - 1∧∀ j,j<p→BN L R j=false) (fun p=>R.length - p) 0 ⟨by omega,fun j hj=>absurd hj (Nat.not_lt_zero j)⟩
  (Xa rfl (by simp [Xh,X5,I]) (by simp [Xi]) (by simp [X4,Xm])) ?_
 rintro p ⟨hp1,hno⟩ next2
 have ce:=mq L R p k h (by omega) hs (by omega)
 have c1:=E0 R p (-1) (p+R.length - 1) h.pos h.len (by have:=h.pos; omega) (by omega) (by omega) (by omega)
 have c2:=E0 R p 1 (p+R.length+1) h.pos h.len (by omega) (by omega) (by omega) (by omega)
 have cw:=LS R p hn (by omega)
 have hre:=Bl h h4 (show p<R.length by omega)
 have hlr:(R.eraseIdx p).length=R.length - 1:=by rw [List.length_eraseIdx,if_pos (by omega)]
 have cc:=Tj L (R.eraseIdx p) k hre hs (by omega)
 rw [hlr] at cc
 rw [QI,X4,Xm] at ce c1 c2 cw
 by_cases hgo2:p<R.length - 1∧BN L R p=false
 ·refine X1 1000 ?_
  simp (disch:=omega) only [X5,X4,Xm,wD,↓X2,wA,seval,wE]
  refine X0 ce rfl ?_
  simp (disch:=omega) only [hgo2.2,X5,X4,Xm,wD,↓X2,wA,seval,wE]
  exact next2 (p+1) _ ⟨by omega,JR.2 ⟨hno,hgo2.2⟩⟩ (by omega) (Xa rfl (by simp [Xh,X5,I]) (by simp [Xi]) (by simp [X4,Xm]))
 have hep:HC L R=p:=UN hp1 hno (by
  by_cases h1:p=R.length - 1
  ·exact .inl h1
  ·right
   cases he:BN L R p with
   | true=>rfl
   | false=>exact absurd ⟨by omega,he⟩ hgo2)
 have hD:(D ++ [F9 R p]) ++ C2 L (C4 L R).length (C4 L R)=T:=by rw [← hDT,hgo,hep,List.append_assoc]; rfl
 have hap:=XQ tC 3 (0,0,0) D (F9 R p) (by omega)
 have hcs:Zd L (R.length - 1) (R.eraseIdx p)=C4 L R:=by unfold C4; rw [hep]
 rw [hcs] at cc
 have nx:=next (D ++ [F9 R p],C4 L R)
 rw [List.length_append,List.length_singleton] at nx
 have htr:tC (F9 R p)=[I (nr R (p+R.length - 1)),I (R.getD p 0:Nat),I (nr R (p+R.length+1))]:=rfl
 have hone:=Ou (F9 R p)
 rw [htr] at hap hone
 generalize D ++ [F9 R p]=D2 at *
 generalize C4 L R=R2 at *
 have v2:=B7 R p
 generalize nr R (p+R.length - 1)=a at *
 generalize nr R (p+R.length+1)=c at *
 generalize R.getD p 0=b at *
 clear hgo hcs htr
 refine X1 1000 ?_
 by_cases hl:p<R.length - 1
 have he:BN L R p=true:=by
  cases he:BN L R p with
  | true=>rfl
  | false=>exact absurd ⟨hl,he⟩ hgo2
 simp (disch:=omega) only [X5,X4,Xm,wD,↓X2,wA,seval,wE]
 refine X0 ce rfl ?_
 simp (disch:=omega) only [he,X5,X4,Xm,wD,↓X2,wA,seval,wE]
 rotate_left
 simp (disch:=omega) only [X5,X4,Xm,wD,↓X2,wA,seval,wE]
 all_goals
  refine X0 c1 rfl ?_
  simp (disch:=omega) only [X5,X4,Xm,v2,wD,↓X2,wA,seval,wE]
  refine X0 c2 rfl ?_
  simp (disch:=omega) only [X5,X4,Xm,v2,wD,↓X2,wA,seval,wE]
  refine ⟨hone,?_⟩
  refine X0 cw rfl ?_
  simp (disch:=omega) only [QI,X5,X4,Xm,wD,↓X2,wA,seval,wE]
  refine X0 cc (by simp only [QI,X4,Xm]; rfl) ?_
  simp (disch:=omega) only [QI,X5,X4,Xm,wD,↓X2,wA,seval,wE]
  exact nx _ ⟨b1,b2,b3,by show D.length+1+R2.length≤L.length; omega,hD⟩ (by show R2.length<R.length; omega) (Xa rfl (by simp [Xh,X5,I]) (by simp [Xi]) (by rw [← hap]; simp [X4,Xm,I,Ox]))
def ic (L:List V2) (d:Nat×Nat×Nat):List V2:=[L.getD d.1 v0,L.getD d.2.1 v0,L.getD d.2.2 v0]
def Ka (L:List V2):List (List V2):=(C3 L).map (ic L)
theorem IB (L:List V2):∀ (f:Nat) (R:List Nat),Rok L R→R.Nodup→3≤R.length→∀ d∈C2 L f R,d.1<L.length∧d.2.1<L.length∧d.2.2<L.length
 | 0,R,h,_,_,d,hd=>by
  rw [List.mem_singleton.1 hd]
  exact ⟨h.mem 0,h.mem 1,h.mem 2⟩
 | f+1,R,h,hn,h3,d,hd=>by
  unfold C2 at hd
  split at hd
  ·rename_i h4
   obtain ⟨b1,b2,b3,_⟩:=DS h hn h4
   rcases List.mem_cons.1 hd with rfl | hd
   ·exact ⟨h.mem _,h.mem _,h.mem _⟩
   ·exact IB L f _ b1 b2 b3 d hd
  ·rw [List.mem_singleton.1 hd]
   exact ⟨h.mem 0,h.mem 1,h.mem 2⟩
theorem Fm (L:List V2):∀ (f:Nat) (R:List Nat),Rok L R→R.Nodup→3≤R.length→(C2 L f R).length≤R.length
 | 0,R,h,_,_=>h.pos
 | f+1,R,h,hn,h3=>by
  unfold C2
  split
  ·rename_i h4
   obtain ⟨b1,b2,b3,b4⟩:=DS h hn h4
   have:=Fm L f _ b1 b2 b3
   rw [List.length_cons]; omega
  ·exact h.pos
theorem ak (A B C:V2):Weak (HK A B C).loose (Xp [A,B,C]):=by
 rw [XR,X5]
 show Weak (AV.sl 3 24 _ false) _
 refine Oz (Nat.le_refl _) fun j hj=>?_
 have hj:j<24:=hj
 match j,hj with
 | 0,_=>rfl
 | 1,_=>rfl
 | 2,_=>rfl
 | 3,_=>rfl
 | 4,_=>rfl
 | 5,_=>rfl
 | 6,_=>rfl
 | 7,_=>rfl
 | 8,_=>rfl
 | 9,_=>rfl
 | 10,_=>rfl
 | 11,_=>rfl
 | 12,_=>rfl
 | 13,_=>rfl
 | 14,_=>rfl
 | 15,_=>rfl
 | 16,_=>rfl
 | 17,_=>rfl
 | 18,_=>rfl
 | 19,_=>rfl
 | 20,_=>rfl
 | 21,_=>rfl
 | 22,_=>rfl
 | 23,_=>rfl
 | j+24,h=>omega
theorem Zq (L:List V2):(Ka L).length=(C3 L).length:=by simp [Ka]
theorem DQ (L:List V2) (i:Nat) (h:i<(C3 L).length):(Ka L).getD i []=ic L ((C3 L).getD i (0,0,0)):=by
 unfold Ka
 rw [List.getD_eq_getElem?_getD,List.getElem?_map,List.getD_eq_getElem?_getD,List.getElem?_eq_getElem h]; rfl
theorem tF (T:List (Nat×Nat×Nat)) (i:Nat):XB tC 3 (0,0,0) T (i*3)=I (T.getD i (0,0,0)).1∧XB tC 3 (0,0,0) T (i*3+1)=I (T.getD i (0,0,0)).2.1∧XB tC 3 (0,0,0) T (i*3+2)=I (T.getD i (0,0,0)).2.2 :=
 ⟨A1 _ _ _ _ _ (by omega),A0 _ _ _ _ _ _ (by omega),A0 _ _ _ _ _ _ (by omega)⟩
theorem Hx {H:List AO} (W:List (List V2)) (A B C:V2) (j:Nat) (hj:j<W.length+1):Zo H (QK W.length (Q1 Xp [] W) 1 (Xq [(HK A B C).loose]) j) (Q1 Xp [] (W ++ [[A,B,C]]) j):=by
 unfold QK
 by_cases h:j<W.length
 ·rw [if_pos h,KS,KS]
  have:(W ++ [[A,B,C]]).getD j []=W.getD j []:=by rw [List.getD_eq_getElem?_getD,List.getD_eq_getElem?_getD,List.getElem?_append_left h]
  rw [this]; exact QY _ _
 ·obtain rfl:j=W.length:=by omega
  rw [if_neg (by omega),if_pos (by omega),KS,Nat.sub_self]
  have:(W ++ [[A,B,C]]).getD W.length []=[A,B,C]:=by rw [List.getD_eq_getElem?_getD,List.getElem?_append_right (Nat.le_refl _),Nat.sub_self]; rfl
  rw [this]
  exact fun c v _ _ hv=>ak A B C c v hv
theorem nc {P:Program} {fn:Func} {str hcs:List Nat} {s:AS} {t u id ver:Nat} {e:AV} (W:List (List V2)) (hr:fn.results=#[.tmp t,.tmp u]) (hs:s.get t=.osl id ver 1 0 W.length) (ho:s.h[id]?=some (.row ver W.length (Q1 Xp [] W))) (hu:s.get u=e) (he:Settled e):RetOk (Qn P fn str hcs (.tup [Gl W,e])) s:=by
 refine RD hr (Zk ⟨?_,QC he hu,trivial⟩)
 rw [hs,XD]
 refine Qv (.inl ho) (by omega) (fun h=>h) fun j hj=>?_
 rw [Nat.zero_add]
 exact (Xd _).sees _
theorem mm (L:List V2) (k:Nat) (hs:XV L k) (hk:k≤1000) (hp:XN L):Fn Tryz.prog 246 [Xp L] (.tup [Gl (Ka L),I 0]):=by
 have hl:=(Kd L hp).1
 have cc:=mo L k hs hk hp
 have hTl:(C3 L).length≤12:=by have:=Fm L L.length _ (Ao hl.1 (by omega)) List.nodup_range (by rw [List.length_range]; omega); rw [List.length_range] at this; unfold C3; omega
 have hm:=IB L L.length _ (Ao hl.1 (by omega)) List.nodup_range (by rw [List.length_range]; omega)
 have hcl:=Zq L
 have hca:=DQ L
 change ∀ d∈C3 L,_ at hm
 generalize C3 L=T at *
 generalize Ka L=C at *
 have hbL:Jj 1 (Xp L)=True:=eq_true (X6 (Xd L))
 have hbT:Jj 1 (ig T)=True:=eq_true (X6 (Hr T))
 refine Fq Tryz.call246 Tryz.func246 8 [] [6] [] (by simp [Xd]) (X1 1000 ?_)
 simp only [AS.start,X5,↓X2,wA,seval,wE]
 refine X0 cc rfl ?_
 simp only [X5,A5,↓X2,wA,seval,wE]
 refine Xe (fun i:Nat=>⟨8,[],[Xp L,.any,.any,.any,ig T,I 0,.osl 0 i 1 0 i,I i],[],[.row i i (Q1 Xp [] (C.take i))]⟩) (fun i=>i≤T.length) (fun i=>T.length - i) 0 (by omega)
  (Sub.trans (Q7 6 1 (Q1 Xp [] []) rfl) (Xa rfl (by simp [AS.put,Xh,X5,A5,I]) (by simp [AS.put,Xi]) (by simp [AS.put]))) ?_
 intro i hi next
 have w1:=wj i (by omega)
 by_cases hi2:i<T.length
 rotate_left
 ·obtain rfl:i=T.length:=by omega
  refine X1 1000 ?_
  simp only [X5,A5,Int.lt_irrefl,Nat.lt_irrefl,↓X2,wA,seval,wE]
  rw [List.take_of_length_le (by omega)]
  exact nc C rfl (by rw [hcl]; rfl) (by rw [hcl]; rfl) rfl (X9 _)
 have t1:=tF T i
 obtain ⟨m1,m2,m3⟩:=hm (T.getD i (0,0,0)) (Kb hi2)
 have hc1:=hca i hi2
 have htk:C.take (i+1)=C.take i ++ [C.getD i []]:=QH C [] i (by omega)
 have hwl:(C.take i).length=i:=by rw [List.length_take]; omega
 have nx:=next (i+1)
 rw [htk,hc1] at nx
 unfold ic at nx
 generalize (T.getD i (0,0,0)).1=a at *
 generalize (T.getD i (0,0,0)).2.1=b at *
 generalize (T.getD i (0,0,0)).2.2=c at *
 have va:=vF L a
 have vb:=vF L b
 have vc:=vF L c
 have hgr:=@Hx [.row (i+1) (i+1) (QK i (Q1 Xp [] (C.take i)) 1 (Xq [(HK (L.getD a v0) (L.getD b v0) (L.getD c v0)).loose]))] (C.take i) (L.getD a v0) (L.getD b v0) (L.getD c v0)
 rw [hwl] at hgr
 generalize L.getD a v0=A at *
 generalize L.getD b v0=B at *
 generalize L.getD c v0=D at *
 generalize C.take i=W at *
 refine X1 1000 ?_
 simp (disch:=omega) only [X5,A5,t1,va,vb,vc,wD,Int.reduceToNat,↓X2,wA,seval,wE]
 exact nx _ (by omega) (by omega) (Sub.trans (Xa (s':=⟨8,[],[Xp L,.any,.any,.any,ig T,I 0,.osl 0 (i+1) 1 0 (i+1),I (i+1:Nat)],[],[.row (i+1) (i+1) (QK i (Q1 Xp [] W) 1 (Xq [(HK A B D).loose]))]⟩) rfl (by simp [Xh,X5,A5,I]) (by simp [Xi]) (by simp [XR,X4,AV.loose])) (Sub.trans (A3 0 (Q1 Xp [] (W ++ [[A,B,D]])) rfl (fun j hj=>hgr j hj)) (Xa rfl (by simp [Xh]) (by simp [Xi]) rfl)))
theorem sf {P:Program} {fn:Func} {str hcs:List Nat} {b:Nat} {r1 r2:AV} {H:List AO} {s:AS} {t u:Nat} (hr:fn.results=#[.tmp t,.tmp u]) (h1:s.get t=r1) (h2:s.get u=r2) (hH:s.h=H):RetOk (Mh P fn str hcs b (.tup [r1,r2]) H) s :=
 ⟨.tup [r1,r2],by show ZX P fn s=_; simp [ZX,hr,Jl,QA,B5,h1,h2],rfl,hH⟩
theorem pf (o1 o2:AO) (B1:∀ m,2≤m→XI m o1) (B2:∀ m,2≤m→XI m o2) (L:List V2) (k:Nat) (hs:XV L k) (hk:k≤1000) (hp:Am L) :
  HCall Tryz.prog 245 [Xp L] [o1,o2] (.tup [.osl 2 (Ka L).length 1 0 (Ka L).length,I 0]) [o1,o2,.row (Ka L).length (Ka L).length (Q1 Xp [] (Ka L))]:=by
 have hl:=hp.1
 have cc:=kB L k hs hk hp
 have hTl:(C3 L).length≤12:=by have:=Fm L L.length _ (Ao hl.1 (by omega)) List.nodup_range (by rw [List.length_range]; omega); rw [List.length_range] at this; unfold C3; omega
 have hm:=IB L L.length _ (Ao hl.1 (by omega)) List.nodup_range (by rw [List.length_range]; omega)
 have hcl:=Zq L
 have hca:=DQ L
 change ∀ d∈C3 L,_ at hm
 generalize C3 L=T at *
 generalize Ka L=C at *
 have hbL:Jj 3 (Xp L)=True:=eq_true (X6 (Xd L))
 have hbT:Jj 3 (ig T)=True:=eq_true (X6 (Hr T))
 have q1:XI 3 o1=True:=eq_true (B1 3 (by omega))
 have q2:XI 3 o2=True:=eq_true (B2 3 (by omega))
 have s1:∀ v n f A B C,XI 3 (.row v (n+1) (QK n (Q1 Xp [] f) 1 (Xq [(HK A B C).loose])))=True:=fun v n f A B C=>eq_true fun j hj=>by
  unfold QK
  have hset:Settled (HK A B C).loose:=by rw [XR]; exact JD fun j _=>Xg (l:=[_,_,_,_,_,_,_,_,_,_,_,_,_,_,_,_,_,_,_,_,_,_,_,_]) (by simp [X7,X3]) j
  split
  ·exact X6 (Xd _)
  ·rw [show j - n=0 by omega]
   exact X6 hset
 refine HCall.intro (fn:=Tryz.f245) Tryz.call245 Tryz.func245 rfl mixed 9 [14,15,16] [6,70000008] [] (by kernel_rfl) (Nat.le_of_ble_eq_true rfl) (X1 1000 ?_)
 simp only [AS.start,X5,↓X2,wA,seval,wE]
 refine X0 cc rfl ?_
 simp only [X5,A5,↓X2,wA,seval,wE]
 refine Xe (fun i:Nat=>⟨9,[14,15,16],[Xp L,.any,.any,.any,.any,I 0,.osl 2 i 1 0 i,.any,.any],[(14,ig T),(15,I T.length),(16,I i)],[o1,o2,.row i i (Q1 Xp [] (C.take i))]⟩) (fun i=>i≤T.length) (fun i=>T.length - i) 0 (by omega)
  (Sub.trans (Q7 6 1 (Q1 Xp [] []) rfl) (Xa rfl (by simp [AS.put,Xh,X5,I]) (by simp [AS.put,Xi,Xw,A5,I]) (by simp [AS.put]))) ?_
 intro i hi next
 have w1:=wj i (by omega)
 by_cases hi2:i<T.length
 rotate_left
 ·obtain rfl:i=T.length:=by omega
  refine X1 1000 ?_
  simp only [X5,A5,Int.lt_irrefl,Nat.lt_irrefl,↓X2,wA,seval,wE]
  rw [List.take_of_length_le (by omega)]
  exact sf rfl (by rw [hcl]; rfl) rfl (by rw [hcl])
 have t1:=tF T i
 obtain ⟨m1,m2,m3⟩:=hm (T.getD i (0,0,0)) (Kb hi2)
 have hc1:=hca i hi2
 have htk:C.take (i+1)=C.take i ++ [C.getD i []]:=QH C [] i (by omega)
 have hwl:(C.take i).length=i:=by rw [List.length_take]; omega
 have nx:=next (i+1)
 rw [htk,hc1] at nx
 unfold ic at nx
 generalize (T.getD i (0,0,0)).1=a at *
 generalize (T.getD i (0,0,0)).2.1=b at *
 generalize (T.getD i (0,0,0)).2.2=c at *
 have va:=vF L a
 have vb:=vF L b
 have vc:=vF L c
 have hgr:=@Hx [o1,o2,.row (i+1) (i+1) (QK i (Q1 Xp [] (C.take i)) 1 (Xq [(HK (L.getD a v0) (L.getD b v0) (L.getD c v0)).loose]))] (C.take i) (L.getD a v0) (L.getD b v0) (L.getD c v0)
 rw [hwl] at hgr
 generalize L.getD a v0=A at *
 generalize L.getD b v0=B at *
 generalize L.getD c v0=D at *
 generalize C.take i=W at *
 refine X1 1000 ?_
 simp (disch:=omega) only [X5,A5,t1,va,vb,vc,wD,Int.reduceToNat,↓X2,wA,seval,wE]
 exact nx _ (by omega) (by omega) (Sub.trans (Xy (m:=3) (s':=⟨9,[14,15,16],[Xp L,.any,.any,.any,.any,I 0,.osl 2 (i+1) 1 0 (i+1),.any,.any],[(14,ig T),(15,I T.length),(16,I (i+1:Nat))],[o1,o2,.row (i+1) (i+1) (QK i (Q1 Xp [] W) 1 (Xq [(HK A B D).loose]))]⟩) (by simp [Mh]) rfl (by simp [Xh,X5,I]) (by simp [Xi,Xw,A5,I]) (by simp [XR,X4,AV.loose]) (by simp [Xx,hbL]) (by simp [Xx,hbT]) (by simp [q1,q2,s1])) (Sub.trans (A3 2 (Q1 Xp [] (W ++ [[A,B,D]])) rfl (fun j hj=>hgr j hj)) (Xa rfl (by simp [Xh]) (by simp [Xi,Xw]) rfl)))
def HG (f:List V2→List V2) (C:List (List V2)) (i:Nat):List (List V2):=(C.take i).map f ++ C.drop i
theorem pY (f:List V2→List V2) (C:List (List V2)):HG f C 0=C:=rfl
theorem fz (f:List V2→List V2) (C:List (List V2)):HG f C C.length=C.map f:=by unfold HG; simp
theorem lS (f:List V2→List V2) (C:List (List V2)) (i:Nat) (h:i<C.length):(HG f C i).getD i []=C.getD i []:=by
 unfold HG
 rw [List.getD_eq_getElem?_getD,List.getElem?_append_right (by simp; omega),List.getD_eq_getElem?_getD]
 simp [Nat.min_eq_left (Nat.le_of_lt h)]
theorem fA (f:List V2→List V2) (C:List (List V2)) (i:Nat) (h:i≤C.length):(HG f C i).length=C.length:=by unfold HG; simp; omega
theorem fD (f:List V2→List V2) (C:List (List V2)) (i:Nat) (h:i<C.length):(HG f C i).set i (f (C.getD i []))=HG f C (i+1):=by
 refine List.ext_getElem? fun j=>?_
 unfold HG
 rw [List.getElem?_set]
 by_cases hj:i=j
 ·subst hj
  rw [if_pos rfl,if_pos (by simp; omega),List.getElem?_append_left (by simp; omega),List.getElem?_map,List.getElem?_take,if_pos (by omega),List.getElem?_eq_getElem h,List.getD_eq_getElem?_getD,List.getElem?_eq_getElem h]; rfl
 ·rw [if_neg hj]
  by_cases hlt:j<i
  ·rw [List.getElem?_append_left (by simp; omega),List.getElem?_append_left (by simp; omega),List.getElem?_map,List.getElem?_map,List.getElem?_take,List.getElem?_take,if_pos hlt,if_pos (by omega)]
  ·rw [List.getElem?_append_right (by simp; omega),List.getElem?_append_right (by simp; omega),List.getElem?_drop,List.getElem?_drop]
   congr 1
   simp; omega
def K9 (p:PV) (t c:V2):List (List V2):=(Ka (Xz p.rim)).map (Kn t c)
theorem Eb {R:List (Int×Int)} (h:QU R):XV (Xz R) 3:=fun i=>by rw [G5]; exact Kz h i
theorem Ez:vb v0≤3:=by
 have:=Kz (R:=[]) (fun c hc=>absurd hc List.not_mem_nil) 0
 exact this
theorem Df (L:List V2) (k:Nat) (h:XV L k) (hk:3≤k) (i:Nat):XV ((Ka L).getD i []) k:=by
 by_cases hi:i<(C3 L).length
 ·rw [DQ L i hi]
  intro j
  unfold ic
  match j with
  | 0=>exact h _
  | 1=>exact h _
  | 2=>exact h _
  | j+3=>exact Nat.le_trans Ez hk
 ·have e:(Ka L).getD i []=[]:=by rw [List.getD_eq_getElem?_getD,List.getElem?_eq_none (by rw [Zq]; omega)]; rfl
  rw [e]
  exact fun j=>Nat.le_trans Ez hk
theorem EM (L:List V2) (i:Nat) (hi:i<(C3 L).length):((Ka L).getD i []).length=3:=by rw [DQ L i hi]; rfl
theorem HN {L:List V2} (hl:3≤L.length∧L.length≤12):(C3 L).length≤12:=by
 have:=Fm L L.length _ (Ao hl.1 (by omega)) List.nodup_range (by rw [List.length_range]; omega)
 rw [List.length_range] at this
 unfold C3; omega
theorem LL (l:List V2):(Xp l).cells=[Xp l]:=nrfl rfl
theorem Sj (l:List V2):(Xp l).one=true:=nrfl rfl
theorem LM (l:List V2):(Xp l).loose=Xp l:=nrfl rfl
theorem N7 (p:PV) (t c:V2) (hp:Am (Xz p.rim)) (hn:QU p.rim) (ht:vb t≤1000) (hc:vb c≤1000):Fn Tryz.prog 202 [Q3 p,Vh t c] (Gl (K9 p t c)):=by
 have hl:=hp.1
 have hle:=HN hl
 have hrl:(Xz p.rim).length=p.rim.length:=by simp [Xz]
 have r1:=Oj p (by omega) (AK hn)
 have sm:=Eb hn
 have hcs:=Df (Xz p.rim) 3 sm (Nat.le_refl _)
 have h3:=EM (Xz p.rim)
 have hcl:=Zq (Xz p.rim)
 have B1:∀ m,2≤m→XI m (.row 0 25 (Xq (XC p))):=fun m _=>XG (XF p)
 have B2:∀ m,2≤m→XI m (.row 0 16 (Xq (FK t c))):=fun m _=>XG (KR t c)
 have co:=pf (.row 0 25 (Xq (XC p))) (.row 0 16 (Xq (FK t c))) B1 B2 (Xz p.rim) 3 sm (by omega) hp
 unfold K9
 generalize Xz p.rim=L at *
 rw [← hcl] at h3 hle
 generalize Ka L=C at *
 refine Fq Tryz.call202 Tryz.func202 9 [15,16,17] [] [] (by simp [Xu,ZG]) (X1 1000 ?_)
 simp (disch:=omega) only [AS.start,Q3,XC,Vh,FK,wD,↓X2,wA,seval,wE]
 refine X0 r1 rfl ?_
 simp (disch:=omega) only [X5,wD,↓X2,wA,seval,wE]
 refine DP rfl co (Jo (fun o h=>?_) (fun o h=>?_)) (fun id=>?_) (Q9 _) ?_
 ·simp only [List.mem_cons,List.not_mem_nil,or_false] at h
  rcases h with rfl | rfl <;> simp
 ·simp only [List.mem_cons,List.not_mem_nil,or_false] at h
  rcases h with rfl | rfl | rfl <;> simp
 ·match id with
  | 0=>simp
  | 1=>simp
  | n+2=>simp
 simp (disch:=omega) only [wD,↓X2,wA,seval,wE]
 refine Xe (fun i:Nat=>⟨9,[15,16,17],[.any,.any,.any,.ref 1 0 0,.any,.osl 2 C.length 1 0 C.length,.any,.any,.any],[(15,.osl 2 C.length 1 0 C.length),(16,I C.length),(17,I i)],[.row 0 25 (Xq (XC p)),.row 0 16 (Xq (FK t c)),.row C.length C.length (Q1 Xp [] (HG (Kn t c) C i))]⟩) (fun i=>i≤C.length) (fun i=>C.length - i) 0 (by omega)
  (Xa rfl (by simp [Xh,I]) (by simp [Xi,Xw,I]) (by simp [XC,FK,X4,Xf,Xl,pY,I])) ?_
 intro i hi next
 by_cases hi2:i<C.length
 rotate_left
 ·obtain rfl:i=C.length:=by omega
  refine X1 1000 ?_
  simp (disch:=omega) only [wD,↓X2,wA,seval,wE]
  rw [fz]
  have hml:(C.map (Kn t c)).length=C.length:=List.length_map ..
  refine AR rfl ?_
  rw [XD,hml]
  refine Qv (id:=2) (m:=C.length) (f:=Q1 Xp [] (C.map (Kn t c))) (.inl rfl) (by omega) (fun h=>h) fun j hj=>?_
  rw [Nat.zero_add]
  exact (Xd _).sees _
 have v1:=nX (HG (Kn t c) C i) i
 rw [lS _ _ _ hi2] at v1
 have cm:=gi t c (C.getD i []) 3 (hcs i) (by omega) (by rw [h3 i hi2]; omega) (by omega) (by omega)
 refine X1 1000 ?_
 simp (disch:=omega) only [v1,wD,↓X2,wA,seval,wE]
 refine X0 cm rfl ?_
 simp (disch:=omega) only [LL,Sj,LM,wD,↓X2,wA,seval,wE]
 exact next (i+1) _ (by omega) (by omega) (Xa rfl (by simp [Xh]) (by simp [Xi,Xw,I]) (by rw [← fD _ _ _ hi2,← VF _ _ _ _ _ (by rw [fA _ _ _ hi]; exact hi2)]))
theorem He (p:PV) (t c:V2) (hp:XN (Xz p.rim)) (hn:QU p.rim) (ht:vb t≤1000) (hc:vb c≤1000):Fn Tryz.prog 212 [Q3 p,Vh t c] (Gl (K9 p t c)):=by
 have hl:=(Kd _ hp).1
 have hle:=HN hl
 have hrl:(Xz p.rim).length=p.rim.length:=by simp [Xz]
 have r1:=G4 p (by omega) (AK hn)
 have sm:=Eb hn
 have hcs:=Df (Xz p.rim) 3 sm (Nat.le_refl _)
 have h3:=EM (Xz p.rim)
 have hcl:=Zq (Xz p.rim)
 have co:=mm (Xz p.rim) 3 sm (by omega) hp
 unfold K9
 generalize Xz p.rim=L at *
 rw [← hcl] at h3 hle
 generalize Ka L=C at *
 have q1:XI 3 (.row 0 25 (Xq (XC p)))=True:=eq_true (XG (XF p))
 have q2:XI 3 (.con 0 16 (Xq (FK t c)))=True:=eq_true (fun j _=>X6 (Xg (KR t c) j))
 have q3:∀ v n l,XI 3 (.row v n (Q1 Xp [] l))=True:=fun v n l=>eq_true fun j _=>X6 (Xd _)
 have q4:Jj 3 (Gl C)=True:=eq_true (X6 (JX C))
 refine Fq Tryz.call212 Tryz.func212 9 [] [6,70000003] [] (by simp [Xu,ZG]) (X1 1000 ?_)
 simp (disch:=omega) only [AS.start,Q3,XC,Vh,FK,wD,↓X2,wA,seval,wE]
 refine X0 r1 rfl ?_
 simp (disch:=omega) only [X5,wD,↓X2,wA,seval,wE]
 refine X0 co rfl ?_
 simp (disch:=omega) only [XD,wD,↓X2,wA,seval,wE]
 refine Xe (fun i:Nat=>⟨9,[],[.any,.any,.any,.ref 1 0 0,.any,Gl C,.any,.osl 2 i 1 0 i,I i],[],[.row 0 25 (Xq (XC p)),.con 0 16 (Xq (FK t c)),.row i i (Q1 Xp [] ((C.map (Kn t c)).take i))]⟩) (fun i=>i≤C.length) (fun i=>C.length - i) 0 (by omega)
  (Sub.trans (Qp 1 rfl) (Sub.trans (Q7 7 1 (Q1 Xp [] []) rfl) (Xa rfl (by simp [AS.put,Xh,XD,I]) (by simp [AS.put,Xi]) (by simp [AS.put,XC,FK,X4,Xf,Xl,I])))) ?_
 have hml:(C.map (Kn t c)).length=C.length:=List.length_map ..
 intro i hi next
 by_cases hi2:i<C.length
 rotate_left
 ·obtain rfl:i=C.length:=by omega
  refine X1 1000 ?_
  simp (disch:=omega) only [XD,wD,↓X2,wA,seval,wE]
  rw [List.take_of_length_le (by omega)]
  refine AR rfl ?_
  rw [XD,hml]
  refine Qv (id:=2) (m:=C.length) (f:=Q1 Xp [] (C.map (Kn t c))) (.inl rfl) (by omega) (fun h=>h) fun j hj=>?_
  rw [Nat.zero_add]
  exact (Xd _).sees _
 have v1:=nX C i
 have cm:=Ry t c (C.getD i []) 3 (hcs i) (by omega) (by rw [h3 i hi2]; omega) (by omega) (by omega)
 have hat:(C.map (Kn t c)).getD i []=Kn t c (C.getD i []):=by rw [List.getD_eq_getElem?_getD,List.getElem?_map,List.getD_eq_getElem?_getD,List.getElem?_eq_getElem hi2]; rfl
 have htk:(C.map (Kn t c)).take (i+1)=(C.map (Kn t c)).take i ++ [Kn t c (C.getD i [])]:=by rw [QH _ [] i (by omega),hat]
 have hap:=In Xp [] ((C.map (Kn t c)).take i) (Kn t c (C.getD i []))
 rw [← htk,List.length_take,Nat.min_eq_left (by omega),Nat.mul_one] at hap
 refine X1 1000 ?_
 simp (disch:=omega) only [XD,v1,wD,↓X2,wA,seval,wE]
 refine X0 cm rfl ?_
 simp (disch:=omega) only [LL,Sj,LM,wD,↓X2,wA,seval,wE]
 exact next (i+1) _ (by omega) (by omega) (Xa rfl (by simp [Xh,XD,I]) (by simp [Xi]) (by rw [← hap]))
def Ck (f:FV):V2:=(f.lo.add f.hi).scale (Rat.divInt 1 2)
def Zr (a b:PV) (f:FV) (e:Rat):Bool:=Fi (K9 a KG v0) (K9 b f.turn (Ck f)) (-e)
structure GP (p:PV) (t:Rat):Prop where
 even:p.even
 poly:XN (Xz p.rim)
 tol:p.tol=RQ.of t
 qt:qb t≤20
structure FV.fine (f:FV):Prop where
 turn:vb f.turn≤60
 lo:vb f.lo≤300
 hi:vb f.hi≤300
theorem EL (p:PV) (t c:V2):(K9 p t c).length=(C3 (Xz p.rim)).length:=by unfold K9; rw [List.length_map,Zq]
theorem Iy (p:PV) (t c:V2) (hn:QU p.rim) (ht:vb t≤100) (hc:vb c≤700):∀ i,i<(K9 p t c).length→Shp 1000 ((K9 p t c).getD i []):=fun i hi=>by
 rw [EL] at hi
 have e:(K9 p t c).getD i []=Kn t c ((Ka (Xz p.rim)).getD i []):=by
  unfold K9
  rw [List.getD_eq_getElem?_getD,List.getElem?_map,List.getD_eq_getElem?_getD,List.getElem?_eq_getElem (by rw [Zq]; exact hi)]; rfl
 have hs:=Df (Xz p.rim) 3 (Eb hn) (Nat.le_refl _) i
 have h3:=EM (Xz p.rim) i hi
 rw [e]
 generalize (Ka (Xz p.rim)).getD i []=W at *
 have hl:(Kn t c W).length=3:=by unfold Kn; rw [List.length_map,h3]
 refine ⟨fun j=>?_,by omega,by omega⟩
 by_cases hj:j<W.length
 ·have ej:(Kn t c W).getD j v0=put t c (W.getD j v0):=by
   unfold Kn
   rw [List.getD_eq_getElem?_getD,List.getElem?_map,List.getD_eq_getElem?_getD,List.getElem?_eq_getElem hj]; rfl
  rw [ej]
  have:=qN t c (W.getD j v0)
  have:=hs j
  omega
 ·rw [List.getD_eq_getElem?_getD,List.getElem?_eq_none (by omega)]
  exact Nat.le_trans Ez (by omega)
theorem Od:qb (Rat.divInt 1 2)≤10:=by decide +kernel
theorem Ui (f:FV) (h:f.fine):vb (Ck f)≤700:=by
 have h1:=Cb f.lo f.hi
 have h2:=ix (f.lo.add f.hi) (Rat.divInt 1 2)
 have:=Od
 have:=h.lo; have:=h.hi
 unfold Ck; omega
theorem DL:vb KG≤10:=by decide +kernel
theorem Pf (a b:PV) (f:FV) {ta tb:Rat} (ha:GP a ta) (hb:GP b tb) (hf:f.fine):(∀ i,i<(K9 a KG v0).length→Shp 1000 ((K9 a KG v0).getD i []))∧(∀ i,i<(K9 b f.turn (Ck f)).length→Shp 1000 ((K9 b f.turn (Ck f)).getD i [])) ∧
  (K9 a KG v0).length≤1000∧(K9 b f.turn (Ck f)).length≤1000:=by
 have h1:=HN (Kd _ ha.poly).1
 have h2:=HN (Kd _ hb.poly).1
 have:=DL
 have:=Ez
 exact ⟨Iy a KG v0 ha.even.near (by omega) (by omega),Iy b f.turn (Ck f) hb.even.near (by have:=hf.turn; omega) (Ui f hf),by rw [EL]; omega,by rw [EL]; omega⟩
theorem Sn:Weak (.agg (vC KG ++ [.bool false,.sl 0 0 (fun _=>.any) true,.bool false,.sl 0 0 (fun _=>.any) true,.bool false,.sl 0 0 (fun _=>.any) true,.bool false,.sl 0 0 (fun _=>.any) true])) (Vh KG v0):=by
 refine XS ?_
 have h:=LR true
 exact ⟨Weak.rfl' _,Weak.rfl' _,Weak.rfl' _,Weak.rfl' _,Weak.rfl' _,Weak.rfl' _,Weak.rfl' _,Weak.rfl' _,h⟩
theorem WX (a b:PV) (f:FV) {ta tb:Rat} (ha:GP a ta) (hb:GP b tb) (hf:f.fine):Fn Tryz.prog 137 [Q3 a,Q3 b,Kt f] (.bool (Zr a b f (ta+tb))):=by
 have qa:=ha.qt; have q2:=hb.qt
 have f1:=hf.turn; have f2:=hf.lo; have f3:=hf.hi
 have c1:=O8 f.lo f.hi (by unfold vm; omega) (by unfold vm; omega)
 have c2:=CR 1 2 (CF (by omega) (by omega)) (CF (by omega) (by omega))
 have m1:=Cb f.lo f.hi
 have m2:=Ui f hf
 have c3:=Nc (f.lo.add f.hi) (Rat.divInt 1 2) (by unfold vm; omega) (by have:=Od; unfold vm; omega)
 have c4:=N7 a KG v0 (Kd _ ha.poly) ha.even.near (by have:=DL; omega) (by have:=Ez; omega)
 have c5:=N7 b f.turn (Ck f) (Kd _ hb.poly) hb.even.near (by omega) (by omega)
 have qe:=Jq ta tb
 have c6:Fn Tryz.prog 70 [a.tol.A,b.tol.A] (qA (ta+tb)):=by rw [ha.tol,hb.tol]; exact Az ta tb (by unfold rm; omega) (by unfold rm; omega)
 have c7:=CP (ta+tb)
 obtain ⟨k1,k2,k3,k4⟩:=Pf a b f ha hb hf
 have c8:=jw _ _ (-(ta+tb)) 1000 k1 k2 (by omega) (by omega) (by rw [BB]; omega) k3 k4
 change Fn _ _ [vA (f.lo.add f.hi),qA (Rat.divInt 1 2)] (vA (Ck f)) at c3
 obtain ⟨V,hV⟩:∃ V,V=Zr a b f (ta+tb):=⟨_,rfl⟩
 change Fn _ _ _ (.tup [.any,.bool (Zr a b f (ta+tb))]) at c8
 rw [← hV] at c8 ⊢
 generalize Ck f=M at *
 refine Fq Tryz.call137 Tryz.func137 10 [] [1,20000005,2,30000003,30000004,30000007] [] (by simp [Xu,XK]) (X1 1000 ?_)
 simp (disch:=omega) only [AS.start,Q3,XC,Kt,Qg,↓Xt,wD,↓X2,wA,seval,wE]
 refine X0 c1 rfl ?_
 simp (disch:=omega) only [↓Xt,wD,↓X2,wA,seval,wE]
 refine X0 c2 rfl ?_
 simp (disch:=omega) only [↓Xt,wD,↓X2,wA,seval,wE]
 refine X0 c3 rfl ?_
 simp (disch:=omega) only [↓Xt,wD,↓X2,wA,seval,wE]
 refine X0 Yz rfl ?_
 simp (disch:=omega) only [↓Xt,wD,↓X2,wA,seval,wE]
 refine Qq c4 ⟨Weak.rfl' _,Sn,trivial⟩ ?_
 simp (disch:=omega) only [XD,↓Xt,wD,↓X2,wA,seval,wE]
 refine X0 c5 rfl ?_
 simp (disch:=omega) only [XD,↓Xt,wD,↓X2,wA,seval,wE]
 refine X0 c6 rfl ?_
 simp (disch:=omega) only [XD,↓Xt,wD,↓X2,wA,seval,wE]
 refine X0 c7 rfl ?_
 simp (disch:=omega) only [XD,↓Xt,wD,↓X2,wA,seval,wE]
 refine X0 c8 rfl ?_
 simp (disch:=omega) only [↓Xt,wD,↓X2,wA,seval,wE]
 exact Xs rfl rfl (X3 _) rfl
theorem Hg (a b:PV) (f:FV) {ta tb:Rat} (ha:GP a ta) (hb:GP b tb) (hf:f.fine):Fn Tryz.prog 151 [Q3 a,Q3 b,Kt f] (.bool (Zr a b f (ta+tb))):=by
 have qa:=ha.qt; have q2:=hb.qt
 have f1:=hf.turn; have f2:=hf.lo; have f3:=hf.hi
 have c1:=F6 f.lo f.hi (by unfold vm; omega) (by unfold vm; omega)
 have c2:=Jk 1 2 (CF (by omega) (by omega)) (CF (by omega) (by omega))
 have m1:=Cb f.lo f.hi
 have m2:=Ui f hf
 have c3:=Oh (f.lo.add f.hi) (Rat.divInt 1 2) (by unfold vm; omega) (by have:=Od; unfold vm; omega)
 have c4:=He a KG v0 ha.poly ha.even.near (by have:=DL; omega) (by have:=Ez; omega)
 have c5:=He b f.turn (Ck f) hb.poly hb.even.near (by omega) (by omega)
 have qe:=Jq ta tb
 have c6:Fn Tryz.prog 76 [a.tol.A,b.tol.A] (qA (ta+tb)):=by rw [ha.tol,hb.tol]; exact Jr ta tb (by unfold rm; omega) (by unfold rm; omega)
 have c7:=Zu (ta+tb) (by unfold rm; omega)
 obtain ⟨k1,k2,k3,k4⟩:=Pf a b f ha hb hf
 have c8:=mn _ _ (-(ta+tb)) 1000 k1 k2 (by omega) (by omega) (by rw [BB]; omega) k3 k4
 change Fn _ _ [vA (f.lo.add f.hi),qA (Rat.divInt 1 2)] (vA (Ck f)) at c3
 obtain ⟨V,hV⟩:∃ V,V=Zr a b f (ta+tb):=⟨_,rfl⟩
 change Fn _ _ _ (.tup [.any,.bool (Zr a b f (ta+tb))]) at c8
 rw [← hV] at c8 ⊢
 generalize Ck f=M at *
 refine Fq Tryz.call151 Tryz.func151 11 [] [1,20000005,2,30000003,3,40000004,40000007] [] (by simp [Xu,XK]) (X1 1000 ?_)
 simp (disch:=omega) only [AS.start,Q3,XC,Kt,Qg,↓Xt,wD,↓X2,wA,seval,wE]
 refine X0 c1 rfl ?_
 simp (disch:=omega) only [↓Xt,wD,↓X2,wA,seval,wE]
 refine X0 c2 rfl ?_
 simp (disch:=omega) only [↓Xt,wD,↓X2,wA,seval,wE]
 refine X0 c3 rfl ?_
 simp (disch:=omega) only [↓Xt,wD,↓X2,wA,seval,wE]
 refine X0 Oi rfl ?_
 simp (disch:=omega) only [↓Xt,wD,↓X2,wA,seval,wE]
 refine Qq c4 ⟨Weak.rfl' _,Sn,trivial⟩ ?_
 simp (disch:=omega) only [XD,↓Xt,wD,↓X2,wA,seval,wE]
 refine X0 c5 rfl ?_
 simp (disch:=omega) only [XD,↓Xt,wD,↓X2,wA,seval,wE]
 refine X0 c6 rfl ?_
 simp (disch:=omega) only [XD,↓Xt,wD,↓X2,wA,seval,wE]
 refine X0 c7 rfl ?_
 simp (disch:=omega) only [XD,↓Xt,wD,↓X2,wA,seval,wE]
 refine X0 c8 rfl ?_
 simp (disch:=omega) only [↓Xt,wD,↓X2,wA,seval,wE]
 exact Xs rfl rfl (X3 _) rfl
def Kl (a b:PV) (f:FV) (e:Rat):Int :=
 if C9 a.rim.length b.rim.length f then if FM a b f then if M8 a b f then
  if (XL a.rim b.rim f e).2.2=true∧(XL a.rim b.rim f e).1=f.lo∧(XL a.rim b.rim f e).2.1=f.hi then if Zr a b f e=true then 0 else 13
  else 22 else 21 else 12 else 5
theorem Sf (a b:PV) (f:FV) (na:QU a.rim) (nb:QU b.rim) (e:Rat) (ht:vb f.turn≤1000) (qe:qb e≤3000):vb (XL a.rim b.rim f e).1≤7000∧vb (XL a.rim b.rim f e).2.1≤7000:=by
 have z:=Ez
 have h1:=Cj na nb f ht f.M.toNat
 have h2:=Cg na nb f ht f.M.toNat
 have h3:=K5 (Ay a.rim b.rim f f.M.toNat) ⟨e,e⟩
 have h4:=Cb (Ax a.rim b.rim f f.M.toNat) ⟨e,e⟩
 have h5:vb ⟨e,e⟩=qb e:=by unfold vb; simp
 unfold XL
 split
 ·simp only
  split
  ·exact ⟨by show vb v0≤_; omega,by show vb v0≤_; omega⟩
  ·exact ⟨by simp only; omega,by simp only; omega⟩
 ·exact ⟨by show vb v0≤_; omega,by show vb v0≤_; omega⟩
theorem Rt (a b:PV) (f:FV) {ta tb:Rat} (ha:GP a ta) (hb:GP b tb) (hf:f.fine):Fn Tryz.prog 61 [Q3 a,Q3 b,Kt f] (I (Kl a b f (ta+tb))):=by
 obtain ⟨V,hV⟩:∃ V,V=Kl a b f (ta+tb):=⟨_,rfl⟩
 rw [← hV]
 unfold Kl at hV
 have qa:=ha.qt; have q2:=hb.qt
 have qe:=Jq ta tb
 have f1:=hf.turn; have f2:=hf.lo; have f3:=hf.hi
 have fin:∀ {s:AS} {n:Int},s.get 6=I n→n=V→RetOk (Qn Tryz.prog Tryz.f61 [] [] (I V)) s:=fun h e=>Xs rfl h (X9 _) (by rw [e])
 have c1:=Hi a b f ha.even.rim hb.even.rim
 have c4:=GH a b f ha.even hb.even (by omega) ha.tol hb.tol (by omega) (by omega)
 have ⟨g1,g2⟩:=Sf a b f ha.even.near hb.even.near (ta+tb) (by omega) (by omega)
 have c7:=Hg a b f ha hb hf
 refine Fq Tryz.call61 Tryz.func61 10 [] [] [] (by simp [Xu,XK]) (X1 1000 ?_)
 simp (disch:=omega) only [AS.start,Q3,XC,Kt,Qg,↓Xt,wD,↓X2,wA,seval,wE]
 refine X0 c1 rfl ?_
 by_cases h1:C9 a.rim.length b.rim.length f
 rotate_left
 ·simp (disch:=omega) only [decide_eq_false h1,↓Xt,wD,↓X2,wA,seval,wE]
  exact fin rfl (by rw [hV,if_neg h1])
 have c2:=G6 a b f h1 ha.even hb.even
 have c3:=OX a b f h1 ha.even hb.even (by unfold vm; omega)
 rw [if_pos h1] at hV
 simp (disch:=omega) only [decide_eq_true h1,↓Xt,wD,↓X2,wA,seval,wE]
 refine X0 c2 rfl ?_
 by_cases h2:FM a b f
 rotate_left
 ·simp (disch:=omega) only [decide_eq_false h2,↓Xt,wD,↓X2,wA,seval,wE]
  exact fin rfl (by rw [hV,if_neg h2])
 rw [if_pos h2] at hV
 simp (disch:=omega) only [decide_eq_true h2,↓Xt,wD,↓X2,wA,seval,wE]
 refine X0 c3 rfl ?_
 by_cases h3:M8 a b f
 rotate_left
 ·simp (disch:=omega) only [decide_eq_false h3,↓Xt,wD,↓X2,wA,seval,wE]
  exact fin rfl (by rw [hV,if_neg h3])
 rw [if_pos h3] at hV
 simp (disch:=omega) only [decide_eq_true h3,↓Xt,wD,↓X2,wA,seval,wE]
 refine X0 c4 rfl ?_
 generalize XL a.rim b.rim f (ta+tb)=G at *
 obtain ⟨lo,hi,ok⟩:=G
 simp only at hV g1 g2
 have c5:=Ll lo f.lo (by unfold vm; omega) (by unfold vm; omega)
 have c6:=Ll hi f.hi (by unfold vm; omega) (by unfold vm; omega)
 cases ok with
 | false =>
  simp (disch:=omega) only [↓Xt,wD,↓X2,wA,seval,wE]
  exact fin rfl (by rw [hV,if_neg (fun h=>by cases h.1)])
 | true =>
  simp (disch:=omega) only [↓Xt,wD,↓X2,wA,seval,wE]
  refine X0 c5 rfl ?_
  by_cases h4:lo=f.lo
  rotate_left
  ·simp (disch:=omega) only [decide_eq_false h4,↓Xt,wD,↓X2,wA,seval,wE]
   exact fin rfl (by rw [hV,if_neg (fun h=>h4 h.2.1)])
  simp (disch:=omega) only [decide_eq_true h4,↓Xt,wD,↓X2,wA,seval,wE]
  refine X0 c6 rfl ?_
  by_cases h5:hi=f.hi
  rotate_left
  ·simp (disch:=omega) only [decide_eq_false h5,↓Xt,wD,↓X2,wA,seval,wE]
   exact fin rfl (by rw [hV,if_neg (fun h=>h5 h.2.2)])
  rw [if_pos ⟨rfl,h4,h5⟩] at hV
  simp (disch:=omega) only [decide_eq_true h5,↓Xt,wD,↓X2,wA,seval,wE]
  refine X0 c7 rfl ?_
  cases h6:Zr a b f (ta+tb) with
  | false =>
   simp (disch:=omega) only [↓Xt,wD,↓X2,wA,seval,wE]
   exact fin rfl (by rw [hV,h6]; rfl)
  | true =>
   simp (disch:=omega) only [↓Xt,wD,↓X2,wA,seval,wE]
   exact fin rfl (by rw [hV,h6]; rfl)
theorem WW (a b:PV) (f:FV) {ta tb:Rat} (ha:GP a ta) (hb:GP b tb) (hf:f.fine):Fn Tryz.prog 52 [Q3 a,Q3 b,Kt f] (I (Kl a b f (ta+tb))):=by
 obtain ⟨V,hV⟩:∃ V,V=Kl a b f (ta+tb):=⟨_,rfl⟩
 rw [← hV]
 unfold Kl at hV
 have qa:=ha.qt; have q2:=hb.qt
 have qe:=Jq ta tb
 have f1:=hf.turn; have f2:=hf.lo; have f3:=hf.hi
 have fin:∀ {s:AS} {n:Int},s.get 6=I n→n=V→RetOk (Qn Tryz.prog Tryz.f52 [] [] (I V)) s:=fun h e=>Xs rfl h (X9 _) (by rw [e])
 have c1:=H0 a b f ha.even.rim hb.even.rim
 have c4:=OL a b f ha.even hb.even (by omega) ha.tol hb.tol (by omega) (by omega)
 have ⟨g1,g2⟩:=Sf a b f ha.even.near hb.even.near (ta+tb) (by omega) (by omega)
 have c7:=WX a b f ha hb hf
 refine Fq Tryz.call52 Tryz.func52 10 [] [] [] (by simp [Xu,XK]) (X1 1000 ?_)
 simp (disch:=omega) only [AS.start,Q3,XC,Kt,Qg,↓Xt,wD,↓X2,wA,seval,wE]
 refine X0 c1 rfl ?_
 by_cases h1:C9 a.rim.length b.rim.length f
 rotate_left
 ·simp (disch:=omega) only [decide_eq_false h1,↓Xt,wD,↓X2,wA,seval,wE]
  exact fin rfl (by rw [hV,if_neg h1])
 have c2:=Rp a b f h1 ha.even hb.even
 have c3:=T1 a b f h1 ha.even hb.even
 have cl:=Ik a b f f.M.toNat
 have hM:f.M.toNat<1000000:=by have:=h1.2.2.2.1; have:=ha.even.rim; omega
 have ca:=Mp (Zp a b f f.M.toNat) 142 [rN f] (fun x=>decide (x=f.turn)) (by omega) (fun x hx=>by rw [List.mem_singleton.1 hx]; exact Hp f) (fun x hx=>WF x f (by have:=Il a b f ha.even.near hb.even.near _ x hx; unfold vm; omega) (by unfold vm; omega))
 have hany:(Zp a b f f.M.toNat).any (fun x=>decide (x=f.turn))=decide (M8 a b f):=by
  have:=OW a b f f.turn f.M.toNat
  cases hq:(Zp a b f f.M.toNat).any (fun x=>decide (x=f.turn)) with
  | true=>exact (decide_eq_true (p:=M8 a b f) (this.1 hq)).symm
  | false=>exact (decide_eq_false (p:=M8 a b f) (fun hh=>by rw [this.2 hh] at hq; cases hq)).symm
 rw [hany] at ca
 generalize Zp a b f f.M.toNat=W at *
 have sB:JJ [.row 0 25 (Xq (XC a)),.row 0 25 (Xq (XC b)),.row 0 29 (Xq (Qg f))] (.ref 2 0 0) (rN f):=AU (.inl rfl) (by omega) fun j hj=>(Xg (Qt f) j).sees _
 rw [if_pos h1] at hV
 simp (disch:=omega) only [decide_eq_true h1,↓Xt,wD,↓X2,wA,seval,wE]
 refine X0 c2 rfl ?_
 by_cases h2:FM a b f
 rotate_left
 ·simp (disch:=omega) only [decide_eq_false h2,↓Xt,wD,↓X2,wA,seval,wE]
  exact fin rfl (by rw [hV,if_neg h2])
 rw [if_pos h2] at hV
 simp (disch:=omega) only [decide_eq_true h2,↓Xt,wD,↓X2,wA,seval,wE]
 refine X0 c3 rfl ?_
 simp (disch:=omega) only [X5,↓Xt,wD,↓X2,wA,seval,wE]
 refine JP ca rfl ⟨(Xd W).sees _,Ee ⟨sB,trivial⟩,trivial⟩ (Bi _) ?_
 by_cases h3:M8 a b f
 rotate_left
 ·simp (disch:=omega) only [decide_eq_false h3,↓Xt,wD,↓X2,wA,seval,wE]
  exact fin rfl (by rw [hV,if_neg h3])
 rw [if_pos h3] at hV
 simp (disch:=omega) only [decide_eq_true h3,↓Xt,wD,↓X2,wA,seval,wE]
 refine X0 c4 rfl ?_
 generalize XL a.rim b.rim f (ta+tb)=G at *
 obtain ⟨lo,hi,ok⟩:=G
 simp only at hV g1 g2
 have c5:=HX lo f.lo (by unfold vm; omega) (by unfold vm; omega)
 have c6:=HX hi f.hi (by unfold vm; omega) (by unfold vm; omega)
 cases ok with
 | false =>
  simp (disch:=omega) only [↓Xt,wD,↓X2,wA,seval,wE]
  exact fin rfl (by rw [hV,if_neg (fun h=>by cases h.1)])
 | true =>
  simp (disch:=omega) only [↓Xt,wD,↓X2,wA,seval,wE]
  refine X0 c5 rfl ?_
  by_cases h4:lo=f.lo
  rotate_left
  ·simp (disch:=omega) only [decide_eq_false h4,↓Xt,wD,↓X2,wA,seval,wE]
   exact fin rfl (by rw [hV,if_neg (fun h=>h4 h.2.1)])
  simp (disch:=omega) only [decide_eq_true h4,↓Xt,wD,↓X2,wA,seval,wE]
  refine X0 c6 rfl ?_
  by_cases h5:hi=f.hi
  rotate_left
  ·simp (disch:=omega) only [decide_eq_false h5,↓Xt,wD,↓X2,wA,seval,wE]
   exact fin rfl (by rw [hV,if_neg (fun h=>h5 h.2.2)])
  rw [if_pos ⟨rfl,h4,h5⟩] at hV
  simp (disch:=omega) only [decide_eq_true h5,↓Xt,wD,↓X2,wA,seval,wE]
  refine X0 c7 rfl ?_
  cases h6:Zr a b f (ta+tb) with
  | false =>
   simp (disch:=omega) only [↓Xt,wD,↓X2,wA,seval,wE]
   exact fin rfl (by rw [hV,h6]; rfl)
  | true =>
   simp (disch:=omega) only [↓Xt,wD,↓X2,wA,seval,wE]
   exact fin rfl (by rw [hV,h6]; rfl)
def Qy (a b:PV) (f:FV) (e:Rat):FV:={ f with lo:=(XL a.rim b.rim f e).1,hi:=(XL a.rim b.rim f e).2.1 }
theorem Oq (a b:PV) (f:FV) {ta tb:Rat} (ha:GP a ta) (hb:GP b tb) (hf:f.fine):Fn Tryz.prog 110 [Q3 a,Q3 b,Kt f] (Kt (Qy a b f (ta+tb)))∧Fn Tryz.prog 112 [Q3 a,Q3 b,Kt f] (Kt (Qy a b f (ta+tb))):=by
 have qa:=ha.qt; have q2:=hb.qt
 have f1:=hf.turn
 have c1:=OL a b f ha.even hb.even (by omega) ha.tol hb.tol (by omega) (by omega)
 have c2:=GH a b f ha.even hb.even (by omega) ha.tol hb.tol (by omega) (by omega)
 obtain ⟨R,hR⟩:∃ R,R=Kt (Qy a b f (ta+tb)):=⟨_,rfl⟩
 have sR:Settled R:=hR▸XK _
 rw [← hR]
 unfold Qy at hR
 generalize XL a.rim b.rim f (ta+tb)=G at *
 obtain ⟨lo,hi,ok⟩:=G
 constructor
 refine Fq Tryz.call110 Tryz.func110 7 [] [] [] (by simp [Xu,XK]) (X1 1000 ?_)
 rotate_left
 refine Fq Tryz.call112 Tryz.func112 10 [] [] [] (by simp [Xu,XK]) (X1 1000 ?_)
 all_goals
  simp (disch:=omega) only [AS.start,Q3,XC,Kt,Qg,↓Xt,wD,↓X2,wA,seval,wE]
  first | refine X0 c1 rfl ?_ | refine X0 c2 rfl ?_
  simp (disch:=omega) only [↓Xt,wD,↓X2,wA,seval,wE]
  exact Z7 rfl MQ rfl rfl rfl sR (hR.trans rfl)
def D9:FV:=⟨0,0,0,0,0,v0,v0,v0⟩
def Ds (a b:PV) (f:FV) (ca cb:PV) (ta tb sa sb:Rat):FV×Int :=
 if (a=Zz a ca∧ta≤sa)∧(b=Zz b cb∧tb≤sb) then if Kl a b f (ta+tb)=0 then (Qy ca cb f (sa+sb),0) else (D9,Kl a b f (ta+tb)) else (D9,1)
def DN:List AV:=[I 0,I 0,I 0,I 0,I 0] ++ (Ae ++ (Ae ++ Ae))
theorem LQ:WeakL DN (Qg D9):=by
 obtain ⟨w1,w2,w3,w4,w5,w6,w7,w8,_⟩:=Z0
 exact ⟨Weak.rfl' _,Weak.rfl' _,Weak.rfl' _,Weak.rfl' _,Weak.rfl' _,w1,w2,w3,w4,w5,w6,w7,w8,w1,w2,w3,w4,w5,w6,w7,w8,w1,w2,w3,w4,w5,w6,w7,w8,trivial⟩
theorem EX (a b:PV) (f:FV) (ca cb:PV) {ta tb sa sb:Rat} (ha:GP a ta) (hb:GP b tb) (hca:GP ca sa) (hcb:GP cb sb) (h1:a.small) (h2:b.small) (h3:ca.small) (h4:cb.small) (hf:f.fine) :
  Fn Tryz.prog 31 [Q3 a,Q3 b,Kt f,Q3 ca,Q3 cb] (.tup [Kt (Ds a b f ca cb ta tb sa sb).1,I (Ds a b f ca cb ta tb sa sb).2]) ∧
  Fn Tryz.prog 34 [Q3 a,Q3 b,Kt f,Q3 ca,Q3 cb] (.tup [Kt (Ds a b f ca cb ta tb sa sb).1,I (Ds a b f ca cb ta tb sa sb).2]):=by
 have i1:=Fy a ca h1 h3 ha.tol hca.tol
 have i2:=Fy b cb h2 h4 hb.tol hcb.tol
 have j1:=V0 a ca h1 h3 ha.tol hca.tol
 have j2:=V0 b cb h2 h4 hb.tol hcb.tol
 have k1:=WW a b f ha hb hf
 have k2:=Rt a b f ha hb hf
 obtain ⟨s1,s2⟩:=Oq ca cb f hca hcb hf
 obtain ⟨R,hR⟩:∃ R,R=Ds a b f ca cb ta tb sa sb:=⟨_,rfl⟩
 rw [← hR]
 unfold Ds at hR
 generalize Kl a b f (ta+tb)=k at *
 generalize Qy ca cb f (sa+sb)=G at *
 constructor
 refine Fq Tryz.call31 Tryz.func31 13 [] [] [] (by simp [Xu,XK]) (X1 1000 ?_)
 rotate_left
 refine Fq Tryz.call34 Tryz.func34 13 [] [] [] (by simp [Xu,XK]) (X1 1000 ?_)
 all_goals
  simp (disch:=omega) only [AS.start,Q3,XC,Kt,Qg,↓Xt,wD,↓X2,wA,seval,wE]
  first | refine X0 i1 rfl ?_ | refine X0 j1 rfl ?_
  by_cases g1:a=Zz a ca∧ta≤sa
  rotate_left
  ·simp (disch:=omega) only [decide_eq_false g1,↓Xt,wD,↓X2,wA,seval,wE]
   rw [if_neg (fun h=>g1 h.1)] at hR
   subst hR
   exact QO rfl (Xo (L:=DN) MQ rfl rfl rfl) (by unfold QA; rfl) (Xr (XK _) (XS LQ)) ((X9 _).sees _)
  simp (disch:=omega) only [decide_eq_true g1,↓Xt,wD,↓X2,wA,seval,wE]
  first | refine X0 i2 rfl ?_ | refine X0 j2 rfl ?_
  by_cases g2:b=Zz b cb∧tb≤sb
  rotate_left
  ·simp (disch:=omega) only [decide_eq_false g2,↓Xt,wD,↓X2,wA,seval,wE]
   rw [if_neg (fun h=>g2 h.2)] at hR
   subst hR
   exact QO rfl (Xo (L:=DN) MQ rfl rfl rfl) (by unfold QA; rfl) (Xr (XK _) (XS LQ)) ((X9 _).sees _)
  rw [if_pos ⟨g1,g2⟩] at hR
  simp (disch:=omega) only [decide_eq_true g2,↓Xt,wD,↓X2,wA,seval,wE]
  first | refine X0 k1 rfl ?_ | refine X0 k2 rfl ?_
  by_cases g3:k=0
  rotate_left
  ·simp (disch:=omega) only [↓Xt,wD,↓X2,wA,seval,wE]
   rw [if_neg g3] at hR
   subst hR
   exact QO rfl (Xo (L:=DN) MQ rfl rfl rfl) (by unfold QA; rfl) (Xr (XK _) (XS LQ)) ((X9 _).sees _)
  simp (disch:=omega) only [↓Xt,wD,↓X2,wA,seval,wE]
  rw [if_pos g3] at hR
  first | refine X0 s1 rfl ?_ | refine X0 s2 rfl ?_
  simp (disch:=omega) only [Kt,Qg,↓Xt,wD,↓X2,wA,seval,wE]
  subst hR
  exact QO rfl (Xo (L:=Qg G) MQ rfl rfl rfl) (by unfold QA; rfl) (QC (XK _) rfl) ((X9 _).sees _)
theorem pm {a b:List (Int×Int)} (ha:QU a) (hb:QU b) (f:FV) (ht:vb f.turn≤60) (k:Nat):vb (A8 a b f k)≤150:=by
 have h1:=Kz ha (xK a.length f k)
 have h2:=Kz hb ((f.EB+1 - k) % b.length).toNat
 unfold A8
 have h3:=CY f.turn (Js (b.getD ((f.EB+1 - k) % b.length).toNat (0,0)))
 have h4:=K5 (Js (a.getD (xK a.length f k) (0,0))) (Lv f.turn (Js (b.getD ((f.EB+1 - k) % b.length).toNat (0,0))))
 omega
theorem Ie (a b:PV) (f:FV) (na:QU a.rim) (nb:QU b.rim) (e:Rat) (ht:vb f.turn≤60):vb (XL a.rim b.rim f e).1≤155+qb e∧vb (XL a.rim b.rim f e).2.1≤155+qb e:=by
 have z:=Ez
 have d:=pm na nb f ht
 have h1:vb (Ay a.rim b.rim f f.M.toNat)≤150:=Nat.max_le.2 ⟨Lh _ 150 (fun j=>Nat.le_trans (Qw _) (d j)) _,Lh _ 150 (fun j=>Nat.le_trans (Qr _) (d j)) _⟩
 have h2:vb (Ax a.rim b.rim f f.M.toNat)≤150:=Nat.max_le.2 ⟨Lg _ 150 (fun j=>Nat.le_trans (Qw _) (d j)) _,Lg _ 150 (fun j=>Nat.le_trans (Qr _) (d j)) _⟩
 have h3:=K5 (Ay a.rim b.rim f f.M.toNat) ⟨e,e⟩
 have h4:=Cb (Ax a.rim b.rim f f.M.toNat) ⟨e,e⟩
 have h5:vb ⟨e,e⟩=qb e:=by unfold vb; simp
 unfold XL
 split
 ·simp only
  split
  ·exact ⟨by show vb v0≤_; omega,by show vb v0≤_; omega⟩
  ·exact ⟨by simp only; omega,by simp only; omega⟩
 ·exact ⟨by show vb v0≤_; omega,by show vb v0≤_; omega⟩
theorem LF {a b:PV} {f:FV} {ta tb:Rat} (ha:GP a ta) (hb:GP b tb) (hf:f.fine):(Qy a b f (ta+tb)).fine:=by
 have:=ha.qt; have:=hb.qt
 have qe:=Jq ta tb
 obtain ⟨h1,h2⟩:=Ie a b f ha.even.near hb.even.near (ta+tb) hf.turn
 exact ⟨hf.turn,by show vb (XL a.rim b.rim f (ta+tb)).1≤300; omega,by show vb (XL a.rim b.rim f (ta+tb)).2.1≤300; omega⟩
theorem rO (f g:FV):f=g↔(f.A=g.A∧f.B=g.B∧f.EA=g.EA∧f.EB=g.EB∧f.M=g.M)∧f.turn=g.turn∧f.lo=g.lo∧f.hi=g.hi:=by
 obtain ⟨a,b,c,d,e,t,l,h⟩:=f
 obtain ⟨a',b',c',d',e',t',l',h'⟩:=g
 simp [and_assoc]
theorem vT {V:Bool} {P:Prop} (h:V=true↔P) (p:P):true=V:=(h.2 p).symm
theorem vN {V:Bool} {P:Prop} (h:V=true↔P) (p:¬ P):false=V:=by
 cases V with
 | true=>exact absurd (h.1 rfl) p
 | false=>rfl
theorem vI {V:Bool} {P Q:Prop} [Decidable Q] (h:V=true↔P) (e:P↔Q):decide Q=V:=by
 by_cases q:Q
 ·rw [decide_eq_true q]; exact vT h (e.2 q)
 ·rw [decide_eq_false q]; exact vN h fun p=>q (e.1 p)
def Tc (t u:V2):Prop:=t.x<u.x∨(t.x=u.x∧t.y<u.y)
theorem gq (a b:Rat):Q6 a b=0↔a=b:=by
 have h1:=Bd a b; have h2:=FQ a b
 exact ⟨fun h=>Rat.le_antisymm (h1.1 (by omega)) (h2.1 (by omega)),fun h=>by subst h; have:=h1.2 Rat.le_refl; have:=h2.2 Rat.le_refl; omega⟩
theorem Wr (t u:V2) (ht:vb t≤vm) (hu:vb u≤vm):Fn Tryz.prog 232 [vA t,vA u] (.bool (decide (Tc t u))):=by
 obtain ⟨V,hV⟩:∃ V,V=decide (Tc t u):=⟨_,rfl⟩
 rw [← hV]
 replace hV:=(Bool.eq_iff_iff.1 hV).trans decide_eq_true_iff
 have fin:∀ {s:AS} {v:Bool},s.get 4=.bool v→v=V→RetOk (Qn Tryz.prog Tryz.f232 [] [] (.bool V)) s:=fun h e=>Xs rfl h (X3 _) (by rw [e])
 have:=Qw t; have:=Qw u; have:=Qr t; have:=Qr u
 unfold vm at ht hu
 have c1:=QP t.x u.x (by unfold rm; omega) (by unfold rm; omega)
 have c2:=QP t.y u.y (by unfold rm; omega) (by unfold rm; omega)
 have e1:=K7 t.x u.x
 have e2:=gq t.x u.x
 have e3:=K7 t.y u.y
 unfold Tc at hV
 rw [← e1,← e2,← e3] at hV
 generalize Q6 t.x u.x=p at *
 generalize Q6 t.y u.y=q at *
 refine Fq Tryz.call232 Tryz.func232 6 [] [] [] (by simp [Xn]) (X1 1000 ?_)
 simp (disch:=omega) only [AS.start,↓Xt,wD,↓X2,wA,seval,wE]
 refine X0 c1 rfl ?_
 rcases (show p<0∨p=0∨0<p by omega) with h | h | h
 ·simp (disch:=omega) only [↓Xt,wD,↓X2,wA,seval,wE]
  exact fin rfl (vT hV (.inl h))
 ·simp (disch:=omega) only [↓Xt,wD,↓X2,wA,seval,wE]
  refine X0 c2 rfl ?_
  simp (disch:=omega) only [↓Xt,wD,↓X2,wA,seval,wE]
  exact fin rfl (vI hV ⟨fun hh=>by omega,fun hh=>.inr ⟨h,hh⟩⟩)
 ·simp (disch:=omega) only [↓Xt,wD,↓X2,wA,seval,wE]
  exact fin rfl (vN hV ((by omega)))
def Rn (n m:Nat) (f g:FV):Prop:=f.M<g.M∧(f.EA - g.EA) % n+f.M≤g.M∧(g.EB - (f.EA - g.EA) % n) % m=f.EB∧f.turn=g.turn
structure FV.near (f:FV):Prop where
 ea:-1000000≤f.EA∧f.EA≤1000000
 eb:-1000000≤f.EB∧f.EB≤1000000
 m:-1000000≤f.M∧f.M≤1000000
theorem me (a b:PV) (f g:FV) (ha:0<a.rim.length∧a.rim.length<1000000) (hb:0<b.rim.length∧b.rim.length<1000000) (nf:f.near) (ng:g.near) (hf:vb f.turn≤vm) (hg:vb g.turn≤vm) :
  Fn Tryz.prog 53 [Q3 a,Q3 b,Kt f,Kt g] (.bool (decide (Rn a.rim.length b.rim.length f g))):=by
 obtain ⟨V,hV⟩:∃ V,V=decide (Rn a.rim.length b.rim.length f g):=⟨_,rfl⟩
 rw [← hV]
 replace hV:=(Bool.eq_iff_iff.1 hV).trans decide_eq_true_iff
 have fin:∀ {s:AS} {v:Bool},s.get 8=.bool v→v=V→RetOk (Qn Tryz.prog Tryz.f53 [2,30000005,30000006,30000007] [] (.bool V)) s:=fun h e=>Xs rfl h (X3 _) (by rw [e])
 obtain ⟨f1,f2,f3⟩:=nf
 obtain ⟨g1,g2,g3⟩:=ng
 have d0:=Int.emod_nonneg (f.EA - g.EA) (show (a.rim.length:Int)≠0 by omega)
 have d1:=Int.emod_lt_of_pos (f.EA - g.EA) (show (0:Int)<a.rim.length by omega)
 have c1:=Qj (f.EA - g.EA) a.rim.length ha.1 (by omega) (by omega)
 have c2:=Qj (g.EB - (f.EA - g.EA) % a.rim.length) b.rim.length hb.1 (by omega) (by omega)
 have c3:=BD f.turn g.turn hf hg
 unfold Rn at hV
 generalize (f.EA - g.EA) % (a.rim.length:Int)=d at *
 generalize (g.EB - d) % (b.rim.length:Int)=r at *
 refine Fq Tryz.call53 Tryz.func53 10 [] [2,30000005,30000006,30000007] [] (by simp [Xu,XK]) (X1 1000 ?_)
 simp (disch:=omega) only [AS.start,Q3,XC,Kt,Qg,↓Xt,wD,↓X2,wA,seval,wE]
 refine X0 c1 rfl ?_
 by_cases h1:f.M<g.M
 rotate_left
 ·simp (disch:=omega) only [↓Xt,wD,↓X2,wA,seval,wE]
  exact fin rfl (vN hV (fun hh=>h1 hh.1))
 by_cases h2:d+f.M≤g.M
 rotate_left
 ·simp (disch:=omega) only [↓Xt,wD,↓X2,wA,seval,wE]
  exact fin rfl (vN hV (fun hh=>h2 hh.2.1))
 simp (disch:=omega) only [↓Xt,wD,↓X2,wA,seval,wE]
 refine X0 c2 rfl ?_
 by_cases h3:r=f.EB
 rotate_left
 ·simp (disch:=omega) only [↓Xt,wD,↓X2,wA,seval,wE]
  exact fin rfl (vN hV (fun hh=>h3 hh.2.2.1))
 simp (disch:=omega) only [↓Xt,wD,↓X2,wA,seval,wE]
 refine X0 c3 rfl ?_
 simp (disch:=omega) only [↓Xt,wD,↓X2,wA,seval,wE]
 exact fin rfl (vI hV ⟨fun hh=>hh.2.2.2,fun hh=>⟨h1,h2,h3,hh⟩⟩)
def B6 (t:V2):V2:=⟨-t.y,t.x⟩
def Kp:Nat→V2→V2
 | 0,t=>t
 | i+1,t=>B6 (Kp i t)
theorem iw (t:V2):vb (B6 t)=vb t:=by unfold vb B6; simp only [BB]; exact Nat.max_comm _ _
theorem GR (t:V2):∀ i,vb (Kp i t)=vb t
 | 0=>rfl
 | i+1=>(iw _).trans (GR t i)
end
end Go.Ab.N
