/- Contracts of functions of these chapters, for every argument that fits, and what they need. -/
import Derived.Test.YtefjhgcndhepeaaGreatC10
import Derived.Test.YtefjhgcndhepeaaGreatC9
import Derived.Test.YtefjhgcndhepeaaGreatC7
import Derived.Test.YtefjhgcndhepeaaGreatC6
set_option linter.unusedSimpArgs false
set_option linter.unusedVariables false
open Nat renaming reducePow → Y1, reduceLT → Y2, reduceLeDiff → Y3, reduceEqDiff → Y4, reduceAdd → Y5, reduceMul → Y6, reduceSub → Y7, reduceBEq → Y8, reduceDiv → Y9, reduceMod → YA
namespace Go.Ab.N
open Go Go.RowKit Go.Proofs
noncomputable section
set_option maxRecDepth 10000
set_option maxHeartbeats 4000000
open Classical
def tC (d:Nat×Nat×Nat):List AV:=[I d.1,I d.2.1,I d.2.2]
theorem X8x (d:Nat×Nat×Nat):∀ x∈tC d,Settled x:=by simp [tC,X08]
def trs (l:List (Nat×Nat×Nat)):AV:=sls tC 3 (0,0,0) l
theorem X4z (l:List (Nat×Nat×Nat)):trs l=.sl l.length (l.length*3) (X0M tC 3 (0,0,0) l) false:=nrfl rfl
theorem Xax (l:List (Nat×Nat×Nat)):Settled (trs l):=X1J fun j _=>X0c (X8x _) _
def XjR (L:List V2) (R:List Nat):Nat:=(List.range (R.length - 1)).findIdx (XaL L R)
theorem Xlt (L:List V2) (R:List Nat):XjR L R≤R.length - 1:=by
 have:=List.findIdx_le_length (xs:=List.range (R.length - 1)) (p:=XaL L R)
 rwa [List.length_range] at this
theorem Xls {L:List V2} {R:List Nat} {p:Nat} (h1:p≤R.length - 1) (h2:∀ j,j<p→XaL L R j=false) (h3:p=R.length - 1∨XaL L R p=true):XjR L R=p:=by
 have hle:=Xlt L R
 rcases Nat.lt_trichotomy (XjR L R) p with h | h | h
 ·have:=List.findIdx_getElem (xs:=List.range (R.length - 1)) (p:=XaL L R) (w:=by rw [List.length_range]; unfold XjR at h; omega)
  rw [List.getElem_range] at this
  have h4:=h2 _ h
  unfold XjR at h4
  rw [h4] at this; cases this
 ·exact h
 ·rcases h3 with h3 | h3
  ·omega
  ·have:=List.not_of_lt_findIdx (xs:=List.range (R.length - 1)) (p:=XaL L R) (i:=p) h
   rw [List.getElem_range,h3] at this
   exact absurd this (by simp)
def Xgr (R:List Nat) (p:Nat):Nat×Nat×Nat:=(nr R (p+R.length - 1),R.getD p 0,nr R (p+R.length+1))
def XaV (L:List V2) (R:List Nat):List Nat:=X6G L (R.length - 1) (R.eraseIdx (XjR L R))
def XaT (L:List V2):Nat→List Nat→List (Nat×Nat×Nat)
 | 0,R=>[(R.getD 0 0,R.getD 1 0,R.getD 2 0)]
 | f+1,R=>if 3<R.length then Xgr R (XjR L R) :: XaT L f (XaV L R) else [(R.getD 0 0,R.getD 1 0,R.getD 2 0)]
def XaU (L:List V2):List (Nat×Nat×Nat):=XaT L L.length (List.range L.length)
theorem Xra (L:List V2):∀ (f:Nat) (R:List Nat),Rok L R→R.Nodup→3≤R.length→Rok L (X6G L f R)∧(X6G L f R).Nodup∧3≤(X6G L f R).length∧(X6G L f R).length≤R.length
 | 0,R,h,hd,h3=>⟨h,hd,h3,Nat.le_refl _⟩
 | f+1,R,h,hd,h3=>by
  unfold X6G
  split
  ·rename_i hc
   have hl:(R.eraseIdx (X4o L R)).length=R.length - 1:=by rw [List.length_eraseIdx,if_pos hc.2]
   obtain ⟨a1,a2,a3,a4⟩:=Xra L f _ (X5o h hc.1 hc.2) (hd.eraseIdx _) (by omega)
   exact ⟨a1,a2,a3,by omega⟩
  ·exact ⟨h,hd,h3,Nat.le_refl _⟩
theorem X8h {L:List V2} {R:List Nat} (h:Rok L R) (hd:R.Nodup) (h3:3<R.length):Rok L (XaV L R)∧(XaV L R).Nodup∧3≤(XaV L R).length∧(XaV L R).length≤R.length - 1:=by
 have hp:XjR L R<R.length:=by have:=Xlt L R; omega
 have hl:(R.eraseIdx (XjR L R)).length=R.length - 1:=by rw [List.length_eraseIdx,if_pos hp]
 obtain ⟨a1,a2,a3,a4⟩:=Xra L (R.length - 1) _ (X5o h h3 hp) (hd.eraseIdx _) (by omega)
 exact ⟨a1,a2,a3,by unfold XaV; omega⟩
theorem XdN (L:List V2):∀ (f g:Nat) (R:List Nat),Rok L R→R.Nodup→R.length≤f→R.length≤g→XaT L f R=XaT L g R
 | 0,g,R,h,_,hf,_=>by have:=h.pos; omega
 | f+1,0,R,h,_,_,hg=>by have:=h.pos; omega
 | f+1,g+1,R,h,hd,hf,hg=>by
  unfold XaT
  split
  ·rename_i h3
   obtain ⟨a1,a2,a3,a4⟩:=X8h h hd h3
   rw [XdN L f g _ a1 a2 (by omega) (by omega)]
  ·rfl
theorem Xll {L:List V2} {R:List Nat} (h:Rok L R) (hd:R.Nodup) (h3:3<R.length):XaT L R.length R=Xgr R (XjR L R) :: XaT L (XaV L R).length (XaV L R):=by
 obtain ⟨a1,a2,a3,a4⟩:=X8h h hd h3
 cases hl:R.length with
 | zero=>omega
 | succ n =>
  show (if 3<R.length then _ else _)=_
  rw [if_pos h3,XdN L n (XaV L R).length _ a1 a2 (by omega) (Nat.le_refl _)]
theorem XgV {L:List V2} {R:List Nat} (h3:¬ 3<R.length) (f:Nat):XaT L f R=[(R.getD 0 0,R.getD 1 0,R.getD 2 0)]:=by
 cases f with
 | zero=>rfl
 | succ n=>unfold XaT; rw [if_neg h3]
theorem X4u {L:List V2} (h:3≤L.length) (hl:L.length<1000000):Rok L (List.range L.length):=⟨by rw [List.length_range]; omega,by rw [List.length_range]; omega,fun j=>by
 rw [List.getD_eq_getElem?_getD]
 by_cases hj:j<L.length
 ·rw [List.getElem?_range hj]; exact hj
 ·rw [List.getElem?_eq_none (by rw [List.length_range]; omega)]; show 0<L.length; omega,hl⟩
theorem Xn3 {P:Program} {fn:Func} {str hcs:List Nat} {s:AS} {t u id ver:Nat} {e:AV} (D:List (Nat×Nat×Nat)) (hr:fn.results=#[.tmp t,.tmp u]) (hs:s.get t=.osl id ver 3 0 D.length) (ho:s.h[id]?=some (.row ver (D.length*3) (X0M tC 3 (0,0,0) D))) (hu:s.get u=e) (he:Settled e):RetOk (X2f P fn str hcs (.tup [trs D,e])) s:=by
 refine XrA hr (X3G ⟨?_,X1h he hu,trivial⟩)
 rw [hs,X4z]
 refine X1e (.inl ho) (by omega) (fun h=>by rw [h]) fun j hj=>?_
 rw [Nat.zero_add]
 exact (X0c (X8x _) _).sees _
theorem XhZ (c:Nat×Nat×Nat):∀ j,j<3→((tC c).getD j .any).one=true:=fun j hj=>by
 match j,hj with
 | 0,_=>rfl
 | 1,_=>rfl
 | 2,_=>rfl
 | j+3,h=>omega
theorem XsQ (L:List V2) (k:Nat) (hs:X0Y L k) (hk:k≤1000) (hp:X5j L):Fn Tryz.prog 263 [X0A L] (.tup [trs (XaU L),I 0]):=by
 have hl:=hp.1
 have cv:=Xex L (fun i=>Nat.le_trans (hs i) hk) (by omega)
 rw [decide_eq_true hp] at cv
 have ca:=XvP L (by omega)
 obtain ⟨T,hT⟩:∃ T,T=XaU L:=⟨_,rfl⟩
 rw [← hT]
 have h0:=X4u hl.1 (by omega)
 have d0:(List.range L.length).Nodup:=List.nodup_range
 refine Fq Tryz.call263 Tryz.func263 7 [] [] [3,9] (by simp [X0b]) (X00 1000 ?_)
 simp only [AS.start,↓X03,wA,seval,wE]
 refine X01 cv rfl ?_
 simp only [↓X03,wA,seval,wE]
 refine X7f rfl ca (X1V (fun o h=>absurd h (List.not_mem_nil)) (fun o ho=>((X3m _ _ _).2 o ho).2.2)) (fun id=>by simp) (X0X _) ?_
 have hlr:(List.range L.length).length=L.length:=List.length_range
 have hTc:T=XaT L (List.range L.length).length (List.range L.length):=by rw [hT,hlr]; rfl
 generalize hN:2*L.length=N
 generalize List.range L.length=R0 at *
 simp only [X1T,↓X03,wA,seval,wE]
 refine X0d (fun w:List (Nat×Nat×Nat)×List Nat=>⟨7,[],[X0A L,.any,.any,.any,.ref 0 0 0,.osl 2 w.1.length 3 0 w.1.length,.any],[],rmH L N w.2 ++ [.row w.1.length (w.1.length*3) (X0M tC 3 (0,0,0) w.1)]⟩) (fun w=>Rok L w.2∧w.2.Nodup∧3≤w.2.length∧w.1.length+w.2.length≤L.length∧w.1 ++ XaT L w.2.length w.2=T) (fun w=>w.2.length) ([],R0) ⟨h0,d0,by show 3≤R0.length; omega,by simp [hlr],by rw [hTc]; rfl⟩
  (Sub.trans (X0W 5 3 (X0M tC 3 (0,0,0) []) rfl) (X09 rfl (by simp [AS.put,X0p]) (by simp [AS.put,X0q]) (by simp [AS.put,X1T]))) ?_
 rintro ⟨D,R⟩ ⟨h,hd,h3,hDl,hDT⟩ next
 replace h:Rok L R:=h
 replace hd:R.Nodup:=hd
 replace h3:3≤R.length:=h3
 replace hDl:D.length+R.length≤L.length:=hDl
 replace hDT:D ++ XaT L R.length R=T:=hDT
 have hNR:R.length≤N:=by omega
 by_cases h4:3<R.length
 rotate_left
 ·have e3:R.length=3:=by omega
  rw [XgV h4] at hDT
  have hap:=X0E tC 3 (0,0,0) D (R.getD 0 0,R.getD 1 0,R.getD 2 0) (by omega)
  rw [hDT] at hap
  have hTl:T.length=D.length+1:=by rw [← hDT]; simp
  refine X00 1000 ?_
  simp (disch:=omega) only [X1T,List.cons_append,List.nil_append,X6F,X3Q,wD,↓X03,wA,seval,wE]
  exact ⟨XhZ (R.getD 0 0,R.getD 1 0,R.getD 2 0),Xn3 T rfl (by rw [hTl]; rfl) (by rw [hTl,← hap]; rfl) rfl (X08 _)⟩
 have hgo:=Xll h hd h4
 obtain ⟨b1,b2,b3,b4⟩:=X8h h hd h4
 refine X00 1000 ?_
 simp (disch:=omega) only [X1T,List.cons_append,List.nil_append,wD,↓X03,wA,seval,wE]
 refine X0d (fun p:Nat=>⟨7,[],[X0A L,.any,.any,.any,.ref 0 0 0,.osl 2 D.length 3 0 D.length,I p],[],rmH L N R ++ [.row D.length (D.length*3) (X0M tC 3 (0,0,0) D)]⟩) (fun p=>p≤R.length - 1∧∀ j,j<p→XaL L R j=false) (fun p=>R.length - p) 0 ⟨by omega,fun j hj=>absurd hj (Nat.not_lt_zero j)⟩
  (X09 rfl (by simp [X0p,I]) (by simp [X0q]) (by simp [X1T])) ?_
 rintro p ⟨hp1,hno⟩ next2
 have hn:=h.len
 have ce:=Xwl L R p k h (by omega) hs (by omega)
 have cc:=Xwg L N R p k h hd hNR h4 (by omega) hs (by omega)
 have hlr:(R.eraseIdx p).length=R.length - 1:=by rw [List.length_eraseIdx,if_pos (by omega)]
 by_cases hgo2:p<R.length - 1∧XaL L R p=false
 ·refine X00 1000 ?_
  simp (disch:=omega) only [X1T,List.cons_append,List.nil_append,wD,↓X03,wA,seval,wE]
  refine X2l ce rfl ⟨Xdc,X1h (X08 _) rfl,trivial⟩ (X5a _) ?_
  simp (disch:=omega) only [hgo2.2,X1T,List.cons_append,List.nil_append,wD,↓X03,wA,seval,wE]
  exact next2 (p+1) _ ⟨by omega,X2t.2 ⟨hno,hgo2.2⟩⟩ (by omega) (X09 rfl (by simp [X0p,I]) (by simp [X0q]) (by simp [X1T]))
 have hep:XjR L R=p:=Xls hp1 hno (by
  by_cases h1:p=R.length - 1
  ·exact .inl h1
  ·right
   cases he:XaL L R p with
   | true=>rfl
   | false=>exact absurd ⟨by omega,he⟩ hgo2)
 have hD:(D ++ [Xgr R p]) ++ XaT L (XaV L R).length (XaV L R)=T:=by rw [← hDT,hgo,hep,List.append_assoc]; rfl
 have hap:=X0E tC 3 (0,0,0) D (Xgr R p) (by omega)
 have hcs:X6G L (R.length - 1) (R.eraseIdx p)=XaV L R:=by unfold XaV; rw [hep]
 rw [hcs] at cc
 have hDn:(D ++ [Xgr R p]).length=D.length+1:=by simp
 have nx:=next (D ++ [Xgr R p],XaV L R)
 rw [List.length_append,List.length_singleton] at nx
 have htr:tC (Xgr R p)=[I (nr R (p+R.length - 1)),I (R.getD p 0:Nat),I (nr R (p+R.length+1))]:=rfl
 have hone:=XhZ (Xgr R p)
 rw [htr] at hap hone
 generalize D ++ [Xgr R p]=D2 at *
 generalize XaV L R=R2 at *
 generalize nr R (p+R.length - 1)=a at *
 generalize nr R (p+R.length+1)=c at *
 generalize R.getD p 0=b at *
 clear hgo hcs htr
 have bR:∀ a∈[AV.ref 0 0 0,I p],Bel 2 a:=fun a ha=>by
  simp only [List.mem_cons,List.not_mem_nil,or_false] at ha
  rcases ha with rfl | rfl
  ·have:Bel 2 (.ref 0 0 0)=True:=by simp [X0L]
   exact this▸trivial
  ·exact X06 (X08 _)
 refine X00 1000 ?_
 by_cases hl:p<R.length - 1
 have he:XaL L R p=true:=by
  cases he:XaL L R p with
  | true=>rfl
  | false=>exact absurd ⟨hl,he⟩ hgo2
 simp (disch:=omega) only [X1T,List.cons_append,List.nil_append,wD,↓X03,wA,seval,wE]
 refine X2l ce rfl ⟨Xdc,X1h (X08 _) rfl,trivial⟩ (X5a _) ?_
 simp (disch:=omega) only [he,X1T,List.cons_append,List.nil_append,wD,↓X03,wA,seval,wE]
 rotate_left
 simp (disch:=omega) only [X1T,List.cons_append,List.nil_append,wD,↓X03,wA,seval,wE]
 all_goals
  refine X4f (H1:=rmH L N R) (H1':=rmH L N R2) (rest:=[.row D.length (D.length*3) (X0M tC 3 (0,0,0) D)]) rfl cc rfl rfl bR (fun o ho=>((X3m L N R).2 o ho).1) (fun o ho=>((X3m L N _).2 o ho).2.1) (fun o ho=>((X3m L N _).2 o ho).2.1) (X1V (fun o ho=>((X3m L N _).2 o ho).2.2) (fun o ho=>((X3m L N _).2 o ho).2.2)) (X0X _) ?_
  simp (disch:=omega) only [X1T,List.cons_append,List.nil_append,wD,↓X03,wA,seval,wE]
  exact ⟨hone,nx _ ⟨b1,b2,b3,by show D.length+1+R2.length≤L.length; omega,hD⟩ (by show R2.length<R.length; omega) (X09 rfl (by simp [X0p]) (by simp [X0q]) (by rw [← hap]; simp [X1T,I]))⟩
theorem Xue (L:List V2) (R:List Nat) (p k:Nat) (h:Rok L R) (hp:p<R.length) (hs:X0Y L k) (hk:k≤10000):Fn Tryz.prog 277 [X0A L,rsA R,I p] (.bool (XaL L R p)):=by
 have c1:=XhN L R p k h hp hs hk
 have c2:=X8q R p (-1) (p+R.length - 1) h.pos h.len (by have:=h.pos; omega) (by have:=h.len; omega) (by omega) (by omega)
 have c3:=X8q R p 1 (p+R.length+1) h.pos h.len (by omega) (by have:=h.len; omega) (by omega) (by omega)
 obtain ⟨h0,hn,hmem,hL⟩:=h
 have m1:=hmem ((p+R.length - 1) % R.length)
 have m2:=hmem ((p+R.length+1) % R.length)
 have m3:=hmem p
 change nr R (p+R.length - 1)<L.length at m1
 change nr R (p+R.length+1)<L.length at m2
 have hear:XaL L R p=decide (0<sdF L R p∧∀ j,j<R.length→X6X L (nr R (p+R.length - 1)) (R.getD p 0) (nr R (p+R.length+1)) (R.getD j 0)):=rfl
 generalize XaL L R p=E at *
 generalize sdF L R p=S at *
 generalize nr R (p+R.length - 1)=a at *
 generalize nr R (p+R.length+1)=c at *
 have v2:=X6F R p
 generalize R.getD p 0=b at *
 have f1:((p:Int)<R.length)=True:=eq_true (by omega)
 have f2:(p<R.length)=True:=eq_true hp
 have f3:(p+1≤R.length)=True:=eq_true (by omega)
 have a1:((a:Int)<L.length)=True:=eq_true (by omega)
 have a2:(a<L.length)=True:=eq_true m1
 have a3:(a*8+8≤L.length*8)=True:=eq_true (by omega)
 have b1:((b:Int)<L.length)=True:=eq_true (by omega)
 have b2:(b<L.length)=True:=eq_true m3
 have b3:(b*8+8≤L.length*8)=True:=eq_true (by omega)
 have e1:((c:Int)<L.length)=True:=eq_true (by omega)
 have e2:(c<L.length)=True:=eq_true m2
 have e3:(c*8+8≤L.length*8)=True:=eq_true (by omega)
 have va:=vF L a
 have vb:=vF L b
 have vc:=vF L c
 refine Fq Tryz.call277 Tryz.func277 12 [] [] [] (by simp [X0b,X3x,X08]) (X00 1000 ?_)
 simp only [AS.start,X1t,X05,X04,↓X03,wA,seval,wE]
 refine X01 c1 rfl ?_
 by_cases hS:S≤0
 ·have g1:(S≤0)=True:=eq_true hS
  have hE:E=false:=by rw [hear]; exact decide_eq_false fun hh=>by omega
  simp only [X1t,X05,X04,g1,↓X03,wA,seval,wE]
  exact X0r (v:=.bool false) rfl rfl (X02 _) (by rw [hE])
 have g1:(S≤0)=False:=eq_false hS
 simp only [X1t,X05,X04,g1,↓X03,wA,seval,wE]
 refine X01 c2 rfl ?_
 simp only [X1t,X05,X04,X0m,f1,f2,f3,v2,Int.toNat_natCast,↓X03,wA,seval,wE]
 refine X01 c3 (by simp only [X1t,X04,X0m]; rfl) ?_
 simp only [X1t,X05,X04,X0m,↓X03,wA,seval,wE]
 have sA:=hs a
 have sB:=hs b
 have sC:=hs c
 generalize hA:L.getD a v0=A at *
 generalize hB:L.getD b v0=B at *
 generalize hC:L.getD c v0=C at *
 have hfree:∀ q,X6X L a b c q=(q=a∨q=c∨q=b∨¬ inT A B C (L.getD q v0)):=fun q=>by unfold X6X; rw [hA,hB,hC]
 refine X0d (fun j:Nat=>⟨12,[],[X0A L,.any,.any,.any,.ref 0 0 0,.any,.any,I a,I b,I c,I j,.any],[],[.row 0 1 (ofL [X0f (zs R)])]⟩) (fun j=>j≤R.length∧∀ i,i<j→X6X L a b c (R.getD i 0)) (fun j=>R.length - j) 0 ⟨by omega,fun i hi=>absurd hi (Nat.not_lt_zero i)⟩
  (X09 rfl (by simp [X0p,X05,X04,X0m,I]) (by simp [X0q]) (by simp [X04,X0m])) ?_
 rintro j ⟨hj,hno⟩ next
 have w1:=wj j (by omega)
 by_cases hj2:j<R.length
 rotate_left
 ·obtain rfl:j=R.length:=by omega
  have hE:E=true:=by rw [hear]; exact decide_eq_true ⟨by omega,hno⟩
  refine X00 1000 ?_
  simp only [X05,X04,X0m,Int.lt_irrefl,Nat.lt_irrefl,↓X03,wA,seval,wE]
  exact X0r (v:=.bool true) rfl rfl (X02 _) (by rw [hE])
 have k1:((j:Int)<R.length)=True:=eq_true (by omega)
 have k2:(j<R.length)=True:=eq_true hj2
 have k3:(j+1≤R.length)=True:=eq_true (by omega)
 have v3:=X6F R j
 have m4:=hmem j
 have nx:=next (j+1)
 have hgo:=fun hfr=>X2t.2 (show (∀ i,i<j→X6X L a b c (R.getD i 0))∧X6X L a b c (R.getD j 0) from ⟨hno,hfr⟩)
 have hstop:¬ X6X L a b c (R.getD j 0)→E=false:=fun hb=>by rw [hear]; exact decide_eq_false fun hh=>hb (hh.2 j hj2)
 rw [hfree] at hgo hstop
 generalize R.getD j 0=q at *
 have sQ:=hs q
 have x1:((q:Int)<L.length)=True:=eq_true (by omega)
 have x2:(q<L.length)=True:=eq_true m4
 have x3:(q*8+8≤L.length*8)=True:=eq_true (by omega)
 have vq:=vF L q
 generalize hQ:L.getD q v0=Q at *
 have cin:=Xxn A B C Q (by unfold vs; omega) (by unfold vs; omega) (by unfold vs; omega) (by unfold vs; omega)
 by_cases q1:q=a
 ·have g1:((q:Int)=(a:Int))=True:=eq_true (by omega)
  refine X00 1000 ?_
  simp only [X05,X04,X0m,w1,k1,k2,k3,v3,g1,Int.toNat_natCast,↓X03,wA,seval,wE]
  exact nx _ ⟨by omega,hgo (.inl q1)⟩ (by omega) (X09 rfl (by simp [X0p,X05,X04,X0m,I]) (by simp [X0q]) (by simp [X04,X0m]))
 have g1':((q:Int)=(a:Int))=False:=eq_false (by omega)
 by_cases q3:q=b
 ·have g3:((q:Int)=(b:Int))=True:=eq_true (by omega)
  refine X00 1000 ?_
  simp only [X05,X04,X0m,w1,k1,k2,k3,v3,g1',g3,Int.toNat_natCast,↓X03,wA,seval,wE]
  exact nx _ ⟨by omega,hgo (.inr (.inr (.inl q3)))⟩ (by omega) (X09 rfl (by simp [X0p,X05,X04,X0m,I]) (by simp [X0q]) (by simp [X04,X0m]))
 have g3':((q:Int)=(b:Int))=False:=eq_false (by omega)
 by_cases q2:q=c
 ·have g2:((q:Int)=(c:Int))=True:=eq_true (by omega)
  refine X00 1000 ?_
  simp only [X05,X04,X0m,w1,k1,k2,k3,v3,g1',g3',g2,Int.toNat_natCast,↓X03,wA,seval,wE]
  exact nx _ ⟨by omega,hgo (.inr (.inl q2))⟩ (by omega) (X09 rfl (by simp [X0p,X05,X04,X0m,I]) (by simp [X0q]) (by simp [X04,X0m]))
 have g2':((q:Int)=(c:Int))=False:=eq_false (by omega)
 refine X00 1000 ?_
 simp only [X05,X04,X0m,w1,k1,k2,k3,v3,g1',g3',g2',a1,a2,a3,b1,b2,b3,e1,e2,e3,x1,x2,x3,va,vb,vc,vq,Int.toNat_natCast,↓X03,wA,seval,wE]
 refine X01 cin rfl ?_
 by_cases hin:inT A B C Q
 ·have hE:E=false:=hstop (by
   rintro (e | e | e | e)
   ·exact q1 e
   ·exact q2 e
   ·exact q3 e
   ·exact e hin)
  simp only [decide_eq_true hin,↓X03,wA,seval,wE]
  exact X0r (v:=.bool false) rfl rfl (X02 _) (by rw [hE])
 ·simp only [decide_eq_false hin,X05,X04,X0m,w1,↓X03,wA,seval,wE]
  exact nx _ ⟨by omega,hgo (.inr (.inr (.inr hin)))⟩ (by omega) (X09 rfl (by simp [X0p,X05,X04,X0m,I]) (by simp [X0q]) (by simp [X04,X0m]))
theorem XqN (n:Nat) (hn:n<1000000):Fn Tryz.prog 276 [I n] (rsA (List.range n)):=by
 refine Fq Tryz.call276 Tryz.func276 5 [] [] [] (by simp [X08]) (X00 1000 ?_)
 simp only [AS.start,↓X03,wA,seval,wE]
 refine X0d (fun i:Nat=>⟨5,[],[I n,.any,.ref 0 0 0,.ref 1 0 0,I i],[],[.row 0 1 (ofL [.sl 0 0 (fun _=>.any) true]),.row 0 1 (ofL [.osl 2 i 1 0 i]),.row i i (slF I 0 (zs (List.range i)))]⟩) (fun i=>i≤n) (fun i=>n - i) 0 (by omega)
  (Sub.trans (X1v 1 1 (fun _=>.sl 0 0 (fun _=>.any) true) rfl (Nat.le_refl _) (fun j hj=>by have e:j=0:=Nat.lt_one_iff.1 hj; subst e; rfl)) ((X5u 1 1 (slF I 0 []) rfl 1 (Nat.le_refl _)).trans ((X1v 1 1 (ofL [.osl 2 0 1 0 0]) rfl (Nat.le_refl _) (fun j hj=>by have e:j=0:=Nat.lt_one_iff.1 hj; subst e; rfl)).trans (X09 rfl (by simp [X0p,I]) (by simp [X0q]) (by simp [zs]))))) ?_
 intro i hi next
 have w1:=wj i (by omega)
 by_cases hi2:i<n
 rotate_left
 ·obtain rfl:i=n:=by omega
  refine X00 1000 ?_
  simp only [Int.lt_irrefl,Nat.lt_irrefl,↓X03,wA,seval,wE]
  have hz:=X7S (l:=zs (List.range i)) (H:=[.row 0 1 (ofL [.osl 2 i 1 0 i]),.row 0 1 (ofL [.osl 2 i 1 0 i]),.row i i (slF I 0 (zs (List.range i)))]) (id:=2) (ver:=i) (n:=i) rfl (by rw [X0m,List.length_range]; exact Nat.le_refl _)
  rw [X0m,List.length_range] at hz
  exact X5K (v:=.agg [.osl 2 i 1 0 i]) rfl (by simp [AS.get,X2O,Xhl,rd,X14,ofL,X49]) (X4a ⟨hz,trivial⟩)
 have f1:((i:Int)<n)=True:=eq_true (by omega)
 have nx:=next (i+1)
 rw [X85] at nx
 have hz:(zs (List.range i)).length=i:=by rw [X0m,List.length_range]
 generalize zs (List.range i)=Z at *
 have hap:=X7c Z (i:Int)
 rw [hz] at hap
 refine X00 1000 ?_
 simp only [w1,f1,Int.toNat_natCast,↓X03,wA,seval,wE]
 exact ⟨⟨by omega,by omega⟩,nx _ (by omega) (by omega) (X09 rfl (by simp [X0p,I]) (by simp [X0q]) (by rw [← hap]))⟩
theorem Xh8 {L:List V2} {R:List Nat} {p:Nat} (h1:p≤R.length) (h2:∀ j,j<p→sdF L R j≠0) (h3:p=R.length∨sdF L R p=0):X4o L R=p:=by
 have hle:=Xcz L R
 rcases Nat.lt_trichotomy (X4o L R) p with h | h | h
 ·exact absurd (Xe0 (by omega)) (h2 _ h)
 ·exact h
 ·rcases h3 with h3 | h3
  ·omega
  ·exact absurd h3 (XcA h)
theorem Xwb {L:List V2} {R:List Nat} (h3:3<R.length) (hq:X4o L R<R.length):X6G L R.length R=X6G L (R.eraseIdx (X4o L R)).length (R.eraseIdx (X4o L R)):=by
 rw [List.length_eraseIdx,if_pos hq]
 cases hl:R.length with
 | zero=>omega
 | succ n =>
  show (if 3<R.length∧X4o L R<R.length then X6G L n (R.eraseIdx (X4o L R)) else R)=_
  rw [if_pos ⟨h3,hq⟩]; rfl
theorem Xlb {L:List V2} {R:List Nat} (h:¬ (3<R.length∧X4o L R<R.length)):X6G L R.length R=R:=by
 cases hl:R.length with
 | zero=>rfl
 | succ n=>unfold X6G; rw [if_neg h]
theorem XiV (L:List V2) (R0:List Nat) (k:Nat) (h:Rok L R0) (hs:X0Y L k) (hk:k≤10000):Fn Tryz.prog 279 [X0A L,rsA R0] (rsA (X6G L R0.length R0)):=by
 refine Fq Tryz.call279 Tryz.func279 6 [] [] [] (by simp [X0b,X3x]) (X00 1000 ?_)
 simp only [AS.start,X1t,X04,X05,↓X03,wA,seval,wE]
 refine X0d (fun w:List Nat×Nat=>⟨6,[],[X0A L,.any,.any,.ref 0 0 0,.ref 1 0 0,I w.2],[],[.row 0 1 (ofL [X0f (zs w.1)]),.row 0 1 (ofL [.sl 0 0 (fun _=>.any) true])]⟩) (fun w=>Rok L w.1∧w.2≤w.1.length∧(∀ j,j<w.2→sdF L w.1 j≠0)∧X6G L w.1.length w.1=X6G L R0.length R0) (fun w=>2000000*w.1.length+(1000000 - w.2)) (R0,0) ⟨h,Nat.zero_le _,fun j hj=>absurd hj (Nat.not_lt_zero j),rfl⟩
  (Sub.trans (X1v 1 1 (ofL [.sl 0 0 (fun _=>.any) true]) rfl (Nat.le_refl _) (fun j hj=>by have e:j=0:=Nat.lt_one_iff.1 hj; subst e; rfl)) (X09 rfl (by simp [X0p,X05,I]) (by simp [X0q]) (by simp [X04,X0m]))) ?_
 rintro ⟨R,p⟩ ⟨hR,hp,hno,hcl⟩ next
 replace hR:Rok L R:=hR
 replace hp:p≤R.length:=hp
 replace hno:∀ j,j<p→sdF L R j≠0:=hno
 replace hcl:X6G L R.length R=X6G L R0.length R0:=hcl
 have hn:=hR.len
 have w1:=wj p (by omega)
 by_cases hgo:3<R.length∧p<R.length
 rotate_left
 ·have e:X6G L R.length R=R:=by
   by_cases h3:3<R.length
   ·exact Xlb fun hh=>by rw [Xh8 hp hno (.inl (by omega))] at hh; omega
   ·exact Xlb fun hh=>h3 hh.1
  rw [e] at hcl
  rw [← hcl]
  have fin:∀ {s:AS},s.get 4=.ref 1 0 0→s.h=[.row 0 1 (ofL [X0f (zs R)]),.row 0 1 (ofL [X0f (zs R)])]→RetOk (X2f Tryz.prog Tryz.f279 [] [] (rsA R)) s:=fun h1 h2=>by
   refine X5K (v:=.agg [X0f (zs R)]) rfl ?_ ?_
   ·rw [h1,h2]; simp [X2O,Xhl,rd,X14,ofL,X49]
   ·exact (X3x R).sees _
  by_cases h3:3<R.length
  ·obtain rfl:p=R.length:=by omega
   have f1:((3:Int)<R.length)=True:=eq_true (by omega)
   refine X00 1000 ?_
   simp only [X05,X04,X0m,f1,Int.lt_irrefl,Nat.lt_irrefl,↓X03,wA,seval,wE]
   exact fin rfl (by simp [X04,X0m])
  ·have f1:((3:Int)<R.length)=False:=eq_false (by omega)
   refine X00 1000 ?_
   simp only [X05,X04,X0m,f1,↓X03,wA,seval,wE]
   exact fin rfl (by simp [X04,X0m])
 obtain ⟨h3,hp2⟩:=hgo
 have cs:=XhN L R p k hR hp2 hs hk
 have cw:=XbV R p hn (by omega)
 rw [X1t,X04,X0m] at cs cw
 have f1:((3:Int)<R.length)=True:=eq_true (by omega)
 have f2:((p:Int)<R.length)=True:=eq_true (by omega)
 by_cases hz:sdF L R p=0
 ·have g1:(sdF L R p=0)=True:=eq_true hz
  have hf:=Xh8 hp hno (.inr hz)
  have hg:=Xwb (L:=L) h3 (by rw [hf]; exact hp2)
  rw [hf,hcl] at hg
  have hl:(R.eraseIdx p).length=R.length - 1:=by rw [List.length_eraseIdx,if_pos hp2]
  have nx:=next (R.eraseIdx p,0)
  refine X00 1000 ?_
  simp only [X05,X04,X0m,f1,f2,w1,↓X03,wA,seval,wE]
  refine X01 cs rfl ?_
  simp only [X05,X04,X0m,g1,↓X03,wA,seval,wE]
  refine X01 cw rfl ?_
  simp only [X1t,X05,X04,X0m,↓X03,wA,seval,wE]
  exact nx _ ⟨X5o hR h3 hp2,Nat.zero_le _,fun j hj=>absurd hj (Nat.not_lt_zero j),hg.symm⟩ (by show 2000000*(R.eraseIdx p).length+(1000000 - 0)<2000000*R.length+(1000000 - p); omega) (X09 rfl (by simp [X0p,X05,I]) (by simp [X0q]) (by simp [X04,X0m]))
 ·have g1:(sdF L R p=0)=False:=eq_false hz
  have nx:=next (R,p+1)
  refine X00 1000 ?_
  simp only [X05,X04,X0m,f1,f2,w1,↓X03,wA,seval,wE]
  refine X01 cs rfl ?_
  simp only [X05,X04,X0m,g1,w1,↓X03,wA,seval,wE]
  exact nx _ ⟨hR,hp2,fun j hj=>by
    rcases Nat.lt_succ_iff_lt_or_eq.1 hj with h | h
    ·exact hno j h
    ·exact h▸hz,hcl⟩ (by show 2000000*R.length+(1000000 - (p+1))<2000000*R.length+(1000000 - p); omega) (X09 rfl (by simp [X0p,X05,I]) (by simp [X0q]) (by simp [X04,X0m]))
theorem Xud (L:List V2) (k:Nat) (hs:X0Y L k) (hk:k≤1000) (hp:X0F L):Fn Tryz.prog 264 [X0A L] (.tup [trs (XaU L),I 0]):=by
 have hl:=(X2F L hp).1
 have cv:=X8P L (fun i=>Nat.le_trans (hs i) hk) (by omega)
 rw [decide_eq_true hp] at cv
 have ca:=XqN L.length (by omega)
 obtain ⟨T,hT⟩:∃ T,T=XaU L:=⟨_,rfl⟩
 rw [← hT]
 have h0:=X4u hl.1 (by omega)
 have d0:(List.range L.length).Nodup:=List.nodup_range
 have hlr:(List.range L.length).length=L.length:=List.length_range
 have hTc:T=XaT L (List.range L.length).length (List.range L.length):=by rw [hT,hlr]; rfl
 have s0:∀ l,X1j 2 (.row 0 1 (ofL [X0f l]))=True:=fun l=>eq_true (X0B (by simp [X07]))
 have s1:∀ v n l,X1j 2 (.row v n (X0M tC 3 (0,0,0) l))=True:=fun v n l=>eq_true fun j _=>X06 (X0c (X8x _) _)
 refine Fq Tryz.call264 Tryz.func264 7 [] [9,10001,10005,10009,11,120000004] [] (by simp [X0b]) (X00 1000 ?_)
 simp only [AS.start,X05,↓X03,wA,seval,wE]
 refine X01 cv rfl ?_
 simp only [X05,↓X03,wA,seval,wE]
 refine X01 ca rfl ?_
 generalize List.range L.length=R0 at *
 simp only [X05,X1t,X04,X0m,↓X03,wA,seval,wE]
 refine X0d (fun w:List (Nat×Nat×Nat)×List Nat=>⟨7,[],[X0A L,.any,.any,.any,.ref 0 0 0,.osl 1 w.1.length 3 0 w.1.length,.any],[],[.row 0 1 (ofL [X0f (zs w.2)]),.row w.1.length (w.1.length*3) (X0M tC 3 (0,0,0) w.1)]⟩) (fun w=>Rok L w.2∧w.2.Nodup∧3≤w.2.length∧w.1.length+w.2.length≤L.length∧w.1 ++ XaT L w.2.length w.2=T) (fun w=>w.2.length) ([],R0) ⟨h0,d0,by show 3≤R0.length; omega,by simp [hlr],by rw [hTc]; rfl⟩
  (Sub.trans (X0W 5 3 (X0M tC 3 (0,0,0) []) rfl) (X09 rfl (by simp [AS.put,X0p,X05]) (by simp [AS.put,X0q]) (by simp [AS.put,X04,X0m]))) ?_
 rintro ⟨D,R⟩ ⟨h,hd,h3,hDl,hDT⟩ next
 replace h:Rok L R:=h
 replace hd:R.Nodup:=hd
 replace h3:3≤R.length:=h3
 replace hDl:D.length+R.length≤L.length:=hDl
 replace hDT:D ++ XaT L R.length R=T:=hDT
 by_cases h4:3<R.length
 rotate_left
 ·have e3:R.length=3:=by omega
  rw [XgV h4] at hDT
  have hap:=X0E tC 3 (0,0,0) D (R.getD 0 0,R.getD 1 0,R.getD 2 0) (by omega)
  rw [hDT] at hap
  have hTl:T.length=D.length+1:=by rw [← hDT]; simp
  refine X00 1000 ?_
  simp (disch:=omega) only [X05,X04,X0m,X6F,X3Q,wD,↓X03,wA,seval,wE]
  exact ⟨XhZ (R.getD 0 0,R.getD 1 0,R.getD 2 0),Xn3 T rfl (by rw [hTl]; rfl) (by rw [hTl,← hap]; rfl) rfl (X08 _)⟩
 have hgo:=Xll h hd h4
 obtain ⟨b1,b2,b3,b4⟩:=X8h h hd h4
 have hn:=h.len
 refine X00 1000 ?_
 simp (disch:=omega) only [X05,X04,X0m,wD,↓X03,wA,seval,wE]
 refine X0d (fun p:Nat=>⟨7,[],[X0A L,.any,.any,.any,.ref 0 0 0,.osl 1 D.length 3 0 D.length,I p],[],[.row 0 1 (ofL [X0f (zs R)]),.row D.length (D.length*3) (X0M tC 3 (0,0,0) D)]⟩) (fun p=>p≤R.length - 1∧∀ j,j<p→XaL L R j=false) (fun p=>R.length - p) 0 ⟨by omega,fun j hj=>absurd hj (Nat.not_lt_zero j)⟩
  (X09 rfl (by simp [X0p,X05,I]) (by simp [X0q]) (by simp [X04,X0m])) ?_
 rintro p ⟨hp1,hno⟩ next2
 have ce:=Xue L R p k h (by omega) hs (by omega)
 have c1:=X8q R p (-1) (p+R.length - 1) h.pos h.len (by have:=h.pos; omega) (by omega) (by omega) (by omega)
 have c2:=X8q R p 1 (p+R.length+1) h.pos h.len (by omega) (by omega) (by omega) (by omega)
 have cw:=XbV R p hn (by omega)
 have hre:=X5o h h4 (show p<R.length by omega)
 have hlr:(R.eraseIdx p).length=R.length - 1:=by rw [List.length_eraseIdx,if_pos (by omega)]
 have cc:=XiV L (R.eraseIdx p) k hre hs (by omega)
 rw [hlr] at cc
 rw [X1t,X04,X0m] at ce c1 c2 cw
 by_cases hgo2:p<R.length - 1∧XaL L R p=false
 ·refine X00 1000 ?_
  simp (disch:=omega) only [X05,X04,X0m,wD,↓X03,wA,seval,wE]
  refine X01 ce rfl ?_
  simp (disch:=omega) only [hgo2.2,X05,X04,X0m,wD,↓X03,wA,seval,wE]
  exact next2 (p+1) _ ⟨by omega,X2t.2 ⟨hno,hgo2.2⟩⟩ (by omega) (X09 rfl (by simp [X0p,X05,I]) (by simp [X0q]) (by simp [X04,X0m]))
 have hep:XjR L R=p:=Xls hp1 hno (by
  by_cases h1:p=R.length - 1
  ·exact .inl h1
  ·right
   cases he:XaL L R p with
   | true=>rfl
   | false=>exact absurd ⟨by omega,he⟩ hgo2)
 have hD:(D ++ [Xgr R p]) ++ XaT L (XaV L R).length (XaV L R)=T:=by rw [← hDT,hgo,hep,List.append_assoc]; rfl
 have hap:=X0E tC 3 (0,0,0) D (Xgr R p) (by omega)
 have hcs:X6G L (R.length - 1) (R.eraseIdx p)=XaV L R:=by unfold XaV; rw [hep]
 rw [hcs] at cc
 have nx:=next (D ++ [Xgr R p],XaV L R)
 rw [List.length_append,List.length_singleton] at nx
 have htr:tC (Xgr R p)=[I (nr R (p+R.length - 1)),I (R.getD p 0:Nat),I (nr R (p+R.length+1))]:=rfl
 have hone:=XhZ (Xgr R p)
 rw [htr] at hap hone
 generalize D ++ [Xgr R p]=D2 at *
 generalize XaV L R=R2 at *
 have v2:=X6F R p
 generalize nr R (p+R.length - 1)=a at *
 generalize nr R (p+R.length+1)=c at *
 generalize R.getD p 0=b at *
 clear hgo hcs htr
 refine X00 1000 ?_
 by_cases hl:p<R.length - 1
 have he:XaL L R p=true:=by
  cases he:XaL L R p with
  | true=>rfl
  | false=>exact absurd ⟨hl,he⟩ hgo2
 simp (disch:=omega) only [X05,X04,X0m,wD,↓X03,wA,seval,wE]
 refine X01 ce rfl ?_
 simp (disch:=omega) only [he,X05,X04,X0m,wD,↓X03,wA,seval,wE]
 rotate_left
 simp (disch:=omega) only [X05,X04,X0m,wD,↓X03,wA,seval,wE]
 all_goals
  refine X01 c1 rfl ?_
  simp (disch:=omega) only [X05,X04,X0m,v2,wD,↓X03,wA,seval,wE]
  refine X01 c2 rfl ?_
  simp (disch:=omega) only [X05,X04,X0m,v2,wD,↓X03,wA,seval,wE]
  refine ⟨hone,?_⟩
  refine X01 cw rfl ?_
  simp (disch:=omega) only [X1t,X05,X04,X0m,wD,↓X03,wA,seval,wE]
  refine X01 cc (by simp only [X1t,X04,X0m]; rfl) ?_
  simp (disch:=omega) only [X1t,X05,X04,X0m,wD,↓X03,wA,seval,wE]
  exact nx _ ⟨b1,b2,b3,by show D.length+1+R2.length≤L.length; omega,hD⟩ (by show R2.length<R.length; omega) (X09 rfl (by simp [X0p,X05,I]) (by simp [X0q]) (by rw [← hap]; simp [X04,X0m,I,Xgt]))
def Xxs (L:List V2) (d:Nat×Nat×Nat):List V2:=[L.getD d.1 v0,L.getD d.2.1 v0,L.getD d.2.2 v0]
def X37 (L:List V2):List (List V2):=(XaU L).map (Xxs L)
theorem Xcq (L:List V2):∀ (f:Nat) (R:List Nat),Rok L R→R.Nodup→3≤R.length→∀ d∈XaT L f R,d.1<L.length∧d.2.1<L.length∧d.2.2<L.length
 | 0,R,h,_,_,d,hd=>by
  rw [List.mem_singleton.1 hd]
  exact ⟨h.mem 0,h.mem 1,h.mem 2⟩
 | f+1,R,h,hn,h3,d,hd=>by
  unfold XaT at hd
  split at hd
  ·rename_i h4
   obtain ⟨b1,b2,b3,_⟩:=X8h h hn h4
   rcases List.mem_cons.1 hd with rfl | hd
   ·exact ⟨h.mem _,h.mem _,h.mem _⟩
   ·exact Xcq L f _ b1 b2 b3 d hd
  ·rw [List.mem_singleton.1 hd]
   exact ⟨h.mem 0,h.mem 1,h.mem 2⟩
theorem X94 (L:List V2):∀ (f:Nat) (R:List Nat),Rok L R→R.Nodup→3≤R.length→(XaT L f R).length≤R.length
 | 0,R,h,_,_=>h.pos
 | f+1,R,h,hn,h3=>by
  unfold XaT
  split
  ·rename_i h4
   obtain ⟨b1,b2,b3,b4⟩:=X8h h hn h4
   have:=X94 L f _ b1 b2 b3
   rw [List.length_cons]; omega
  ·exact h.pos
theorem Xni (A B C:V2):Weak (XjW A B C).loose (X0A [A,B,C]):=by
 rw [X0G,X05]
 show Weak (AV.sl 3 24 _ false) _
 refine XaH (Nat.le_refl _) fun j hj=>?_
 have hj:j<24:=hj
 match j,hj with
 | 0,_=>rfl
 | 1,_=>rfl
 | 2,_=>rfl
 | 3,_=>rfl
 | 4,_=>rfl
 | 5,_=>rfl
 | 6,_=>rfl
 | 7,_=>rfl
 | 8,_=>rfl
 | 9,_=>rfl
 | 10,_=>rfl
 | 11,_=>rfl
 | 12,_=>rfl
 | 13,_=>rfl
 | 14,_=>rfl
 | 15,_=>rfl
 | 16,_=>rfl
 | 17,_=>rfl
 | 18,_=>rfl
 | 19,_=>rfl
 | 20,_=>rfl
 | 21,_=>rfl
 | 22,_=>rfl
 | 23,_=>rfl
 | j+24,h=>omega
theorem X3r (L:List V2):(X37 L).length=(XaU L).length:=by simp [X37]
theorem X7i (L:List V2) (i:Nat) (h:i<(XaU L).length):(X37 L).getD i []=Xxs L ((XaU L).getD i (0,0,0)):=by
 unfold X37
 rw [List.getD_eq_getElem?_getD,List.getElem?_map,List.getD_eq_getElem?_getD,List.getElem?_eq_getElem h]; rfl
theorem tF (T:List (Nat×Nat×Nat)) (i:Nat):X0M tC 3 (0,0,0) T (i*3)=I (T.getD i (0,0,0)).1∧X0M tC 3 (0,0,0) T (i*3+1)=I (T.getD i (0,0,0)).2.1∧X0M tC 3 (0,0,0) T (i*3+2)=I (T.getD i (0,0,0)).2.2 :=
 ⟨X3I _ _ _ _ _ (by omega),X3z _ _ _ _ _ _ (by omega),X3z _ _ _ _ _ _ (by omega)⟩
theorem XaF {H:List AO} (W:List (List V2)) (A B C:V2) (j:Nat) (hj:j<W.length+1):X4k H (X2H W.length (slF X0A [] W) 1 (ofL [(XjW A B C).loose]) j) (slF X0A [] (W ++ [[A,B,C]]) j):=by
 unfold X2H
 by_cases h:j<W.length
 ·rw [if_pos h,X3Q,X3Q]
  have:(W ++ [[A,B,C]]).getD j []=W.getD j []:=by rw [List.getD_eq_getElem?_getD,List.getD_eq_getElem?_getD,List.getElem?_append_left h]
  rw [this]; exact X1B _ _
 ·obtain rfl:j=W.length:=by omega
  rw [if_neg (by omega),if_pos (by omega),X3Q,Nat.sub_self]
  have:(W ++ [[A,B,C]]).getD W.length []=[A,B,C]:=by rw [List.getD_eq_getElem?_getD,List.getElem?_append_right (Nat.le_refl _),Nat.sub_self]; rfl
  rw [this]
  exact fun c v _ _ hv=>Xni A B C c v hv
theorem XuO {P:Program} {fn:Func} {str hcs:List Nat} {s:AS} {t u id ver:Nat} {e:AV} (W:List (List V2)) (hr:fn.results=#[.tmp t,.tmp u]) (hs:s.get t=.osl id ver 1 0 W.length) (ho:s.h[id]?=some (.row ver W.length (slF X0A [] W))) (hu:s.get u=e) (he:Settled e):RetOk (X2f P fn str hcs (.tup [vss W,e])) s:=by
 refine XrA hr (X3G ⟨?_,X1h he hu,trivial⟩)
 rw [hs,X0z]
 refine X1e (.inl ho) (by omega) (fun h=>h) fun j hj=>?_
 rw [Nat.zero_add]
 exact (X0b _).sees _
theorem Xua (L:List V2) (k:Nat) (hs:X0Y L k) (hk:k≤1000) (hp:X0F L):Fn Tryz.prog 246 [X0A L] (.tup [vss (X37 L),I 0]):=by
 have hl:=(X2F L hp).1
 have cc:=Xud L k hs hk hp
 have hTl:(XaU L).length≤12:=by have:=X94 L L.length _ (X4u hl.1 (by omega)) List.nodup_range (by rw [List.length_range]; omega); rw [List.length_range] at this; unfold XaU; omega
 have hm:=Xcq L L.length _ (X4u hl.1 (by omega)) List.nodup_range (by rw [List.length_range]; omega)
 have hcl:=X3r L
 have hca:=X7i L
 change ∀ d∈XaU L,_ at hm
 generalize XaU L=T at *
 generalize X37 L=C at *
 have hbL:Bel 1 (X0A L)=True:=eq_true (X06 (X0b L))
 have hbT:Bel 1 (trs T)=True:=eq_true (X06 (Xax T))
 refine Fq Tryz.call246 Tryz.func246 8 [] [6] [] (by simp [X0b]) (X00 1000 ?_)
 simp only [AS.start,X05,↓X03,wA,seval,wE]
 refine X01 cc rfl ?_
 simp only [X05,X4z,↓X03,wA,seval,wE]
 refine X0d (fun i:Nat=>⟨8,[],[X0A L,.any,.any,.any,trs T,I 0,.osl 0 i 1 0 i,I i],[],[.row i i (slF X0A [] (C.take i))]⟩) (fun i=>i≤T.length) (fun i=>T.length - i) 0 (by omega)
  (Sub.trans (X0W 6 1 (slF X0A [] []) rfl) (X09 rfl (by simp [AS.put,X0p,X05,X4z,I]) (by simp [AS.put,X0q]) (by simp [AS.put]))) ?_
 intro i hi next
 have w1:=wj i (by omega)
 by_cases hi2:i<T.length
 rotate_left
 ·obtain rfl:i=T.length:=by omega
  refine X00 1000 ?_
  simp only [X05,X4z,Int.lt_irrefl,Nat.lt_irrefl,↓X03,wA,seval,wE]
  rw [List.take_of_length_le (by omega)]
  exact XuO C rfl (by rw [hcl]; rfl) (by rw [hcl]; rfl) rfl (X08 _)
 have t1:=tF T i
 obtain ⟨m1,m2,m3⟩:=hm (T.getD i (0,0,0)) (X2u hi2)
 have hc1:=hca i hi2
 have htk:C.take (i+1)=C.take i ++ [C.getD i []]:=X1b C [] i (by omega)
 have hwl:(C.take i).length=i:=by rw [List.length_take]; omega
 have nx:=next (i+1)
 rw [htk,hc1] at nx
 unfold Xxs at nx
 generalize (T.getD i (0,0,0)).1=a at *
 generalize (T.getD i (0,0,0)).2.1=b at *
 generalize (T.getD i (0,0,0)).2.2=c at *
 have va:=vF L a
 have vb:=vF L b
 have vc:=vF L c
 have hgr:=@XaF [.row (i+1) (i+1) (X2H i (slF X0A [] (C.take i)) 1 (ofL [(XjW (L.getD a v0) (L.getD b v0) (L.getD c v0)).loose]))] (C.take i) (L.getD a v0) (L.getD b v0) (L.getD c v0)
 rw [hwl] at hgr
 generalize L.getD a v0=A at *
 generalize L.getD b v0=B at *
 generalize L.getD c v0=D at *
 generalize C.take i=W at *
 refine X00 1000 ?_
 simp (disch:=omega) only [X05,X4z,t1,va,vb,vc,wD,Int.reduceToNat,↓X03,wA,seval,wE]
 exact nx _ (by omega) (by omega) (Sub.trans (X09 (s':=⟨8,[],[X0A L,.any,.any,.any,trs T,I 0,.osl 0 (i+1) 1 0 (i+1),I (i+1:Nat)],[],[.row (i+1) (i+1) (X2H i (slF X0A [] W) 1 (ofL [(XjW A B D).loose]))]⟩) rfl (by simp [X0p,X05,X4z,I]) (by simp [X0q]) (by simp [X0G,X04,AV.loose])) (Sub.trans (X4c 0 (slF X0A [] (W ++ [[A,B,D]])) rfl (fun j hj=>hgr j hj)) (X09 rfl (by simp [X0p]) (by simp [X0q]) rfl)))
theorem XyH {P:Program} {fn:Func} {str hcs:List Nat} {b:Nat} {r1 r2:AV} {H:List AO} {s:AS} {t u:Nat} (hr:fn.results=#[.tmp t,.tmp u]) (h1:s.get t=r1) (h2:s.get u=r2) (hH:s.h=H):RetOk (Xnr P fn str hcs b (.tup [r1,r2]) H) s :=
 ⟨.tup [r1,r2],by show X7L P fn s=_; simp [X7L,hr,X2a,X1F,X6D,h1,h2],rfl,hH⟩
theorem Xwd (o1 o2:AO) (B1:∀ m,2≤m→X1j m o1) (B2:∀ m,2≤m→X1j m o2) (L:List V2) (k:Nat) (hs:X0Y L k) (hk:k≤1000) (hp:X5j L) :
  HCall Tryz.prog 245 [X0A L] [o1,o2] (.tup [.osl 2 (X37 L).length 1 0 (X37 L).length,I 0]) [o1,o2,.row (X37 L).length (X37 L).length (slF X0A [] (X37 L))]:=by
 have hl:=hp.1
 have cc:=XsQ L k hs hk hp
 have hTl:(XaU L).length≤12:=by have:=X94 L L.length _ (X4u hl.1 (by omega)) List.nodup_range (by rw [List.length_range]; omega); rw [List.length_range] at this; unfold XaU; omega
 have hm:=Xcq L L.length _ (X4u hl.1 (by omega)) List.nodup_range (by rw [List.length_range]; omega)
 have hcl:=X3r L
 have hca:=X7i L
 change ∀ d∈XaU L,_ at hm
 generalize XaU L=T at *
 generalize X37 L=C at *
 have hbL:Bel 3 (X0A L)=True:=eq_true (X06 (X0b L))
 have hbT:Bel 3 (trs T)=True:=eq_true (X06 (Xax T))
 have q1:X1j 3 o1=True:=eq_true (B1 3 (by omega))
 have q2:X1j 3 o2=True:=eq_true (B2 3 (by omega))
 have s1:∀ v n f A B C,X1j 3 (.row v (n+1) (X2H n (slF X0A [] f) 1 (ofL [(XjW A B C).loose])))=True:=fun v n f A B C=>eq_true fun j hj=>by
  unfold X2H
  have hset:Settled (XjW A B C).loose:=by rw [X0G]; exact X1J fun j _=>X0c (l:=[_,_,_,_,_,_,_,_,_,_,_,_,_,_,_,_,_,_,_,_,_,_,_,_]) (by simp [X07,X02]) j
  split
  ·exact X06 (X0b _)
  ·rw [show j - n=0 by omega]
   exact X06 hset
 refine HCall.intro (fn:=Tryz.f245) Tryz.call245 Tryz.func245 rfl mixed 9 [14,15,16] [6,70000008] [] (by kernel_rfl) (Nat.le_of_ble_eq_true rfl) (X00 1000 ?_)
 simp only [AS.start,X05,↓X03,wA,seval,wE]
 refine X01 cc rfl ?_
 simp only [X05,X4z,↓X03,wA,seval,wE]
 refine X0d (fun i:Nat=>⟨9,[14,15,16],[X0A L,.any,.any,.any,.any,I 0,.osl 2 i 1 0 i,.any,.any],[(14,trs T),(15,I T.length),(16,I i)],[o1,o2,.row i i (slF X0A [] (C.take i))]⟩) (fun i=>i≤T.length) (fun i=>T.length - i) 0 (by omega)
  (Sub.trans (X0W 6 1 (slF X0A [] []) rfl) (X09 rfl (by simp [AS.put,X0p,X05,I]) (by simp [AS.put,X0q,X0P,X4z,I]) (by simp [AS.put]))) ?_
 intro i hi next
 have w1:=wj i (by omega)
 by_cases hi2:i<T.length
 rotate_left
 ·obtain rfl:i=T.length:=by omega
  refine X00 1000 ?_
  simp only [X05,X4z,Int.lt_irrefl,Nat.lt_irrefl,↓X03,wA,seval,wE]
  rw [List.take_of_length_le (by omega)]
  exact XyH rfl (by rw [hcl]; rfl) rfl (by rw [hcl])
 have t1:=tF T i
 obtain ⟨m1,m2,m3⟩:=hm (T.getD i (0,0,0)) (X2u hi2)
 have hc1:=hca i hi2
 have htk:C.take (i+1)=C.take i ++ [C.getD i []]:=X1b C [] i (by omega)
 have hwl:(C.take i).length=i:=by rw [List.length_take]; omega
 have nx:=next (i+1)
 rw [htk,hc1] at nx
 unfold Xxs at nx
 generalize (T.getD i (0,0,0)).1=a at *
 generalize (T.getD i (0,0,0)).2.1=b at *
 generalize (T.getD i (0,0,0)).2.2=c at *
 have va:=vF L a
 have vb:=vF L b
 have vc:=vF L c
 have hgr:=@XaF [o1,o2,.row (i+1) (i+1) (X2H i (slF X0A [] (C.take i)) 1 (ofL [(XjW (L.getD a v0) (L.getD b v0) (L.getD c v0)).loose]))] (C.take i) (L.getD a v0) (L.getD b v0) (L.getD c v0)
 rw [hwl] at hgr
 generalize L.getD a v0=A at *
 generalize L.getD b v0=B at *
 generalize L.getD c v0=D at *
 generalize C.take i=W at *
 refine X00 1000 ?_
 simp (disch:=omega) only [X05,X4z,t1,va,vb,vc,wD,Int.reduceToNat,↓X03,wA,seval,wE]
 exact nx _ (by omega) (by omega) (Sub.trans (X0t (m:=3) (s':=⟨9,[14,15,16],[X0A L,.any,.any,.any,.any,I 0,.osl 2 (i+1) 1 0 (i+1),.any,.any],[(14,trs T),(15,I T.length),(16,I (i+1:Nat))],[o1,o2,.row (i+1) (i+1) (X2H i (slF X0A [] W) 1 (ofL [(XjW A B D).loose]))]⟩) (by simp [Xnr]) rfl (by simp [X0p,X05,I]) (by simp [X0q,X0P,X4z,I]) (by simp [X0G,X04,AV.loose]) (by simp [X0L,hbL]) (by simp [X0L,hbT]) (by simp [q1,q2,s1])) (Sub.trans (X4c 2 (slF X0A [] (W ++ [[A,B,D]])) rfl (fun j hj=>hgr j hj)) (X09 rfl (by simp [X0p]) (by simp [X0q,X0P]) rfl)))
def XjU (f:List V2→List V2) (C:List (List V2)) (i:Nat):List (List V2):=(C.take i).map f ++ C.drop i
theorem XwU (f:List V2→List V2) (C:List (List V2)):XjU f C 0=C:=rfl
theorem XpC (f:List V2→List V2) (C:List (List V2)):XjU f C C.length=C.map f:=by unfold XjU; simp
theorem XtJ (f:List V2→List V2) (C:List (List V2)) (i:Nat) (h:i<C.length):(XjU f C i).getD i []=C.getD i []:=by
 unfold XjU
 rw [List.getD_eq_getElem?_getD,List.getElem?_append_right (by simp; omega),List.getD_eq_getElem?_getD]
 simp [Nat.min_eq_left (Nat.le_of_lt h)]
theorem XpD (f:List V2→List V2) (C:List (List V2)) (i:Nat) (h:i≤C.length):(XjU f C i).length=C.length:=by unfold XjU; simp; omega
theorem XpE (f:List V2→List V2) (C:List (List V2)) (i:Nat) (h:i<C.length):(XjU f C i).set i (f (C.getD i []))=XjU f C (i+1):=by
 refine List.ext_getElem? fun j=>?_
 unfold XjU
 rw [List.getElem?_set]
 by_cases hj:i=j
 ·subst hj
  rw [if_pos rfl,if_pos (by simp; omega),List.getElem?_append_left (by simp; omega),List.getElem?_map,List.getElem?_take,if_pos (by omega),List.getElem?_eq_getElem h,List.getD_eq_getElem?_getD,List.getElem?_eq_getElem h]; rfl
 ·rw [if_neg hj]
  by_cases hlt:j<i
  ·rw [List.getElem?_append_left (by simp; omega),List.getElem?_append_left (by simp; omega),List.getElem?_map,List.getElem?_map,List.getElem?_take,List.getElem?_take,if_pos hlt,if_pos (by omega)]
  ·rw [List.getElem?_append_right (by simp; omega),List.getElem?_append_right (by simp; omega),List.getElem?_drop,List.getElem?_drop]
   congr 1
   simp; omega
def X36 (p:PV) (t c:V2):List (List V2):=(X37 (X0Q p.rim)).map (X5D t c)
theorem X7M {R:List (Int×Int)} (h:X2e R):X0Y (X0Q R) 3:=fun i=>by rw [Xao]; exact X2U h i
theorem XaC:vb v0≤3:=by
 have:=X2U (R:=[]) (fun c hc=>absurd hc List.not_mem_nil) 0
 exact this
theorem X6S (L:List V2) (k:Nat) (h:X0Y L k) (hk:3≤k) (i:Nat):X0Y ((X37 L).getD i []) k:=by
 by_cases hi:i<(XaU L).length
 ·rw [X7i L i hi]
  intro j
  unfold Xxs
  match j with
  | 0=>exact h _
  | 1=>exact h _
  | 2=>exact h _
  | j+3=>exact Nat.le_trans XaC hk
 ·have e:(X37 L).getD i []=[]:=by rw [List.getD_eq_getElem?_getD,List.getElem?_eq_none (by rw [X3r]; omega)]; rfl
  rw [e]
  exact fun j=>Nat.le_trans XaC hk
theorem X8e (L:List V2) (i:Nat) (hi:i<(XaU L).length):((X37 L).getD i []).length=3:=by rw [X7i L i hi]; rfl
theorem Xcr {L:List V2} (hl:3≤L.length∧L.length≤12):(XaU L).length≤12:=by
 have:=X94 L L.length _ (X4u hl.1 (by omega)) List.nodup_range (by rw [List.length_range]; omega)
 rw [List.length_range] at this
 unfold XaU; omega
theorem XbS (l:List V2):(X0A l).cells=[X0A l]:=nrfl rfl
theorem Xi7 (l:List V2):(X0A l).one=true:=nrfl rfl
theorem XbT (l:List V2):(X0A l).loose=X0A l:=nrfl rfl
theorem Xeq (p:PV) (t c:V2) (hp:X5j (X0Q p.rim)) (hn:X2e p.rim) (ht:vb t≤1000) (hc:vb c≤1000):Fn Tryz.prog 202 [pvA p,plA t c] (vss (X36 p t c)):=by
 have hl:=hp.1
 have hle:=Xcr hl
 have hrl:(X0Q p.rim).length=p.rim.length:=by simp [X0Q]
 have r1:=XhM p (by omega) (X4J hn)
 have sm:=X7M hn
 have hcs:=X6S (X0Q p.rim) 3 sm (Nat.le_refl _)
 have h3:=X8e (X0Q p.rim)
 have hcl:=X3r (X0Q p.rim)
 have B1:∀ m,2≤m→X1j m (.row 0 25 (ofL (pvC p))):=fun m _=>X0B (X0w p)
 have B2:∀ m,2≤m→X1j m (.row 0 16 (ofL (plC t c))):=fun m _=>X0B (X34 t c)
 have co:=Xwd (.row 0 25 (ofL (pvC p))) (.row 0 16 (ofL (plC t c))) B1 B2 (X0Q p.rim) 3 sm (by omega) hp
 unfold X36
 generalize X0Q p.rim=L at *
 rw [← hcl] at h3 hle
 generalize X37 L=C at *
 refine Fq Tryz.call202 Tryz.func202 9 [15,16,17] [] [] (by simp [X0o,X3w]) (X00 1000 ?_)
 simp (disch:=omega) only [AS.start,pvA,pvC,plA,plC,wD,↓X03,wA,seval,wE]
 refine X01 r1 rfl ?_
 simp (disch:=omega) only [X05,wD,↓X03,wA,seval,wE]
 refine X7f rfl co (X1V (fun o h=>?_) (fun o h=>?_)) (fun id=>?_) (X0X _) ?_
 ·simp only [List.mem_cons,List.not_mem_nil,or_false] at h
  rcases h with rfl | rfl <;> simp
 ·simp only [List.mem_cons,List.not_mem_nil,or_false] at h
  rcases h with rfl | rfl | rfl <;> simp
 ·match id with
  | 0=>simp
  | 1=>simp
  | n+2=>simp
 simp (disch:=omega) only [wD,↓X03,wA,seval,wE]
 refine X0d (fun i:Nat=>⟨9,[15,16,17],[.any,.any,.any,.ref 1 0 0,.any,.osl 2 C.length 1 0 C.length,.any,.any,.any],[(15,.osl 2 C.length 1 0 C.length),(16,I C.length),(17,I i)],[.row 0 25 (ofL (pvC p)),.row 0 16 (ofL (plC t c)),.row C.length C.length (slF X0A [] (XjU (X5D t c) C i))]⟩) (fun i=>i≤C.length) (fun i=>C.length - i) 0 (by omega)
  (X09 rfl (by simp [X0p,I]) (by simp [X0q,X0P,I]) (by simp [pvC,plC,X04,X0e,X0j,XwU,I])) ?_
 intro i hi next
 by_cases hi2:i<C.length
 rotate_left
 ·obtain rfl:i=C.length:=by omega
  refine X00 1000 ?_
  simp (disch:=omega) only [wD,↓X03,wA,seval,wE]
  rw [XpC]
  have hml:(C.map (X5D t c)).length=C.length:=List.length_map ..
  refine X8R rfl ?_
  rw [X0z,hml]
  refine X1e (id:=2) (m:=C.length) (f:=slF X0A [] (C.map (X5D t c))) (.inl rfl) (by omega) (fun h=>h) fun j hj=>?_
  rw [Nat.zero_add]
  exact (X0b _).sees _
 have v1:=slv (XjU (X5D t c) C i) i
 rw [XtJ _ _ _ hi2] at v1
 have cm:=XpR t c (C.getD i []) 3 (hcs i) (by omega) (by rw [h3 i hi2]; omega) (by omega) (by omega)
 refine X00 1000 ?_
 simp (disch:=omega) only [v1,wD,↓X03,wA,seval,wE]
 refine X01 cm rfl ?_
 simp (disch:=omega) only [XbS,Xi7,XbT,wD,↓X03,wA,seval,wE]
 exact next (i+1) _ (by omega) (by omega) (X09 rfl (by simp [X0p]) (by simp [X0q,X0P,I]) (by rw [← XpE _ _ _ hi2,← Xna _ _ _ _ _ (by rw [XpD _ _ _ hi]; exact hi2)]))
theorem Xae (p:PV) (t c:V2) (hp:X0F (X0Q p.rim)) (hn:X2e p.rim) (ht:vb t≤1000) (hc:vb c≤1000):Fn Tryz.prog 212 [pvA p,plA t c] (vss (X36 p t c)):=by
 have hl:=(X2F _ hp).1
 have hle:=Xcr hl
 have hrl:(X0Q p.rim).length=p.rim.length:=by simp [X0Q]
 have r1:=X9j p (by omega) (X4J hn)
 have sm:=X7M hn
 have hcs:=X6S (X0Q p.rim) 3 sm (Nat.le_refl _)
 have h3:=X8e (X0Q p.rim)
 have hcl:=X3r (X0Q p.rim)
 have co:=Xua (X0Q p.rim) 3 sm (by omega) hp
 unfold X36
 generalize X0Q p.rim=L at *
 rw [← hcl] at h3 hle
 generalize X37 L=C at *
 have q1:X1j 3 (.row 0 25 (ofL (pvC p)))=True:=eq_true (X0B (X0w p))
 have q2:X1j 3 (.con 0 16 (ofL (plC t c)))=True:=eq_true (fun j _=>X06 (X0c (X34 t c) j))
 have q3:∀ v n l,X1j 3 (.row v n (slF X0A [] l))=True:=fun v n l=>eq_true fun j _=>X06 (X0b _)
 have q4:Bel 3 (vss C)=True:=eq_true (X06 (X2j C))
 refine Fq Tryz.call212 Tryz.func212 9 [] [6,70000003] [] (by simp [X0o,X3w]) (X00 1000 ?_)
 simp (disch:=omega) only [AS.start,pvA,pvC,plA,plC,wD,↓X03,wA,seval,wE]
 refine X01 r1 rfl ?_
 simp (disch:=omega) only [X05,wD,↓X03,wA,seval,wE]
 refine X01 co rfl ?_
 simp (disch:=omega) only [X0z,wD,↓X03,wA,seval,wE]
 refine X0d (fun i:Nat=>⟨9,[],[.any,.any,.any,.ref 1 0 0,.any,vss C,.any,.osl 2 i 1 0 i,I i],[],[.row 0 25 (ofL (pvC p)),.con 0 16 (ofL (plC t c)),.row i i (slF X0A [] ((C.map (X5D t c)).take i))]⟩) (fun i=>i≤C.length) (fun i=>C.length - i) 0 (by omega)
  (Sub.trans (X1a 1 rfl) (Sub.trans (X0W 7 1 (slF X0A [] []) rfl) (X09 rfl (by simp [AS.put,X0p,X0z,I]) (by simp [AS.put,X0q]) (by simp [AS.put,pvC,plC,X04,X0e,X0j,I])))) ?_
 have hml:(C.map (X5D t c)).length=C.length:=List.length_map ..
 intro i hi next
 by_cases hi2:i<C.length
 rotate_left
 ·obtain rfl:i=C.length:=by omega
  refine X00 1000 ?_
  simp (disch:=omega) only [X0z,wD,↓X03,wA,seval,wE]
  rw [List.take_of_length_le (by omega)]
  refine X8R rfl ?_
  rw [X0z,hml]
  refine X1e (id:=2) (m:=C.length) (f:=slF X0A [] (C.map (X5D t c))) (.inl rfl) (by omega) (fun h=>h) fun j hj=>?_
  rw [Nat.zero_add]
  exact (X0b _).sees _
 have v1:=slv C i
 have cm:=Xg4 t c (C.getD i []) 3 (hcs i) (by omega) (by rw [h3 i hi2]; omega) (by omega) (by omega)
 have hat:(C.map (X5D t c)).getD i []=X5D t c (C.getD i []):=by rw [List.getD_eq_getElem?_getD,List.getElem?_map,List.getD_eq_getElem?_getD,List.getElem?_eq_getElem hi2]; rfl
 have htk:(C.map (X5D t c)).take (i+1)=(C.map (X5D t c)).take i ++ [X5D t c (C.getD i [])]:=by rw [X1b _ [] i (by omega),hat]
 have hap:=Xcg X0A [] ((C.map (X5D t c)).take i) (X5D t c (C.getD i []))
 rw [← htk,List.length_take,Nat.min_eq_left (by omega),Nat.mul_one] at hap
 refine X00 1000 ?_
 simp (disch:=omega) only [X0z,v1,wD,↓X03,wA,seval,wE]
 refine X01 cm rfl ?_
 simp (disch:=omega) only [XbS,Xi7,XbT,wD,↓X03,wA,seval,wE]
 exact next (i+1) _ (by omega) (by omega) (X09 rfl (by simp [X0p,X0z,I]) (by simp [X0q]) (by rw [← hap]))
def Xbr (f:FV):V2:=(f.lo.add f.hi).scale (Rat.divInt 1 2)
def X4m (a b:PV) (f:FV) (e:Rat):Bool:=XgJ (X36 a X4b v0) (X36 b f.turn (Xbr f)) (-e)
structure GP (p:PV) (t:Rat):Prop where
 even:p.even
 poly:X0F (X0Q p.rim)
 tol:p.tol=RQ.of t
 qt:qb t≤20
structure FV.fine (f:FV):Prop where
 turn:vb f.turn≤60
 lo:vb f.lo≤300
 hi:vb f.hi≤300
theorem X8d (p:PV) (t c:V2):(X36 p t c).length=(XaU (X0Q p.rim)).length:=by unfold X36; rw [List.length_map,X3r]
theorem Xba (p:PV) (t c:V2) (hn:X2e p.rim) (ht:vb t≤100) (hc:vb c≤700):∀ i,i<(X36 p t c).length→Shp 1000 ((X36 p t c).getD i []):=fun i hi=>by
 rw [X8d] at hi
 have e:(X36 p t c).getD i []=X5D t c ((X37 (X0Q p.rim)).getD i []):=by
  unfold X36
  rw [List.getD_eq_getElem?_getD,List.getElem?_map,List.getD_eq_getElem?_getD,List.getElem?_eq_getElem (by rw [X3r]; exact hi)]; rfl
 have hs:=X6S (X0Q p.rim) 3 (X7M hn) (Nat.le_refl _) i
 have h3:=X8e (X0Q p.rim) i hi
 rw [e]
 generalize (X37 (X0Q p.rim)).getD i []=W at *
 have hl:(X5D t c W).length=3:=by unfold X5D; rw [List.length_map,h3]
 refine ⟨fun j=>?_,by omega,by omega⟩
 by_cases hj:j<W.length
 ·have ej:(X5D t c W).getD j v0=put t c (W.getD j v0):=by
   unfold X5D
   rw [List.getD_eq_getElem?_getD,List.getElem?_map,List.getD_eq_getElem?_getD,List.getElem?_eq_getElem hj]; rfl
  rw [ej]
  have:=XxB t c (W.getD j v0)
  have:=hs j
  omega
 ·rw [List.getD_eq_getElem?_getD,List.getElem?_eq_none (by omega)]
  exact Nat.le_trans XaC (by omega)
theorem Xg0:qb (Rat.divInt 1 2)≤10:=by decide +kernel
theorem Xnc (f:FV) (h:f.fine):vb (Xbr f)≤700:=by
 have h1:=X5Q f.lo f.hi
 have h2:=XqD (f.lo.add f.hi) (Rat.divInt 1 2)
 have:=Xg0
 have:=h.lo; have:=h.hi
 unfold Xbr; omega
theorem X80:vb X4b≤10:=by decide +kernel
theorem XgS (a b:PV) (f:FV) {ta tb:Rat} (ha:GP a ta) (hb:GP b tb) (hf:f.fine):(∀ i,i<(X36 a X4b v0).length→Shp 1000 ((X36 a X4b v0).getD i []))∧(∀ i,i<(X36 b f.turn (Xbr f)).length→Shp 1000 ((X36 b f.turn (Xbr f)).getD i [])) ∧
  (X36 a X4b v0).length≤1000∧(X36 b f.turn (Xbr f)).length≤1000:=by
 have h1:=Xcr (X2F _ ha.poly).1
 have h2:=Xcr (X2F _ hb.poly).1
 have:=X80
 have:=XaC
 exact ⟨Xba a X4b v0 ha.even.near (by omega) (by omega),Xba b f.turn (Xbr f) hb.even.near (by have:=hf.turn; omega) (Xnc f hf),by rw [X8d]; omega,by rw [X8d]; omega⟩
theorem Xi9:Weak (.agg (vC X4b ++ [.bool false,.sl 0 0 (fun _=>.any) true,.bool false,.sl 0 0 (fun _=>.any) true,.bool false,.sl 0 0 (fun _=>.any) true,.bool false,.sl 0 0 (fun _=>.any) true])) (plA X4b v0):=by
 refine X0I ?_
 have h:=Xdl true
 exact ⟨Weak.rfl' _,Weak.rfl' _,Weak.rfl' _,Weak.rfl' _,Weak.rfl' _,Weak.rfl' _,Weak.rfl' _,Weak.rfl' _,h⟩
theorem XlA (a b:PV) (f:FV) {ta tb:Rat} (ha:GP a ta) (hb:GP b tb) (hf:f.fine):Fn Tryz.prog 137 [pvA a,pvA b,fvA f] (.bool (X4m a b f (ta+tb))):=by
 have qa:=ha.qt; have q2:=hb.qt
 have f1:=hf.turn; have f2:=hf.lo; have f3:=hf.hi
 have c1:=XfU f.lo f.hi (by unfold vm; omega) (by unfold vm; omega)
 have c2:=X7P 1 2 (X6r (by omega) (by omega)) (X6r (by omega) (by omega))
 have m1:=X5Q f.lo f.hi
 have m2:=Xnc f hf
 have c3:=Xew (f.lo.add f.hi) (Rat.divInt 1 2) (by unfold vm; omega) (by have:=Xg0; unfold vm; omega)
 have c4:=Xeq a X4b v0 (X2F _ ha.poly) ha.even.near (by have:=X80; omega) (by have:=XaC; omega)
 have c5:=Xeq b f.turn (Xbr f) (X2F _ hb.poly) hb.even.near (by omega) (by omega)
 have qe:=X2n ta tb
 have c6:Fn Tryz.prog 70 [a.tol.A,b.tol.A] (qA (ta+tb)):=by rw [ha.tol,hb.tol]; exact X4W ta tb (by unfold rm; omega) (by unfold rm; omega)
 have c7:=X75 (ta+tb)
 obtain ⟨k1,k2,k3,k4⟩:=XgS a b f ha hb hf
 have c8:=XrW _ _ (-(ta+tb)) 1000 k1 k2 (by omega) (by omega) (by rw [X6d]; omega) k3 k4
 change Fn _ _ [vA (f.lo.add f.hi),qA (Rat.divInt 1 2)] (vA (Xbr f)) at c3
 obtain ⟨V,hV⟩:∃ V,V=X4m a b f (ta+tb):=⟨_,rfl⟩
 change Fn _ _ _ (.tup [.any,.bool (X4m a b f (ta+tb))]) at c8
 rw [← hV] at c8 ⊢
 generalize Xbr f=M at *
 refine Fq Tryz.call137 Tryz.func137 10 [] [1,20000005,2,30000003,30000004,30000007] [] (by simp [X0o,X0s]) (X00 1000 ?_)
 simp (disch:=omega) only [AS.start,pvA,pvC,fvA,fvC,↓X0v,wD,↓X03,wA,seval,wE]
 refine X01 c1 rfl ?_
 simp (disch:=omega) only [↓X0v,wD,↓X03,wA,seval,wE]
 refine X01 c2 rfl ?_
 simp (disch:=omega) only [↓X0v,wD,↓X03,wA,seval,wE]
 refine X01 c3 rfl ?_
 simp (disch:=omega) only [↓X0v,wD,↓X03,wA,seval,wE]
 refine X01 Xml rfl ?_
 simp (disch:=omega) only [↓X0v,wD,↓X03,wA,seval,wE]
 refine X17 c4 ⟨Weak.rfl' _,Xi9,trivial⟩ ?_
 simp (disch:=omega) only [X0z,↓X0v,wD,↓X03,wA,seval,wE]
 refine X01 c5 rfl ?_
 simp (disch:=omega) only [X0z,↓X0v,wD,↓X03,wA,seval,wE]
 refine X01 c6 rfl ?_
 simp (disch:=omega) only [X0z,↓X0v,wD,↓X03,wA,seval,wE]
 refine X01 c7 rfl ?_
 simp (disch:=omega) only [X0z,↓X0v,wD,↓X03,wA,seval,wE]
 refine X01 c8 rfl ?_
 simp (disch:=omega) only [↓X0v,wD,↓X03,wA,seval,wE]
 exact X0r rfl rfl (X02 _) rfl
theorem Xag (a b:PV) (f:FV) {ta tb:Rat} (ha:GP a ta) (hb:GP b tb) (hf:f.fine):Fn Tryz.prog 151 [pvA a,pvA b,fvA f] (.bool (X4m a b f (ta+tb))):=by
 have qa:=ha.qt; have q2:=hb.qt
 have f1:=hf.turn; have f2:=hf.lo; have f3:=hf.hi
 have c1:=X5m f.lo f.hi (by unfold vm; omega) (by unfold vm; omega)
 have c2:=X1M 1 2 (X6r (by omega) (by omega)) (X6r (by omega) (by omega))
 have m1:=X5Q f.lo f.hi
 have m2:=Xnc f hf
 have c3:=XeE (f.lo.add f.hi) (Rat.divInt 1 2) (by unfold vm; omega) (by have:=Xg0; unfold vm; omega)
 have c4:=Xae a X4b v0 ha.poly ha.even.near (by have:=X80; omega) (by have:=XaC; omega)
 have c5:=Xae b f.turn (Xbr f) hb.poly hb.even.near (by omega) (by omega)
 have qe:=X2n ta tb
 have c6:Fn Tryz.prog 76 [a.tol.A,b.tol.A] (qA (ta+tb)):=by rw [ha.tol,hb.tol]; exact X1W ta tb (by unfold rm; omega) (by unfold rm; omega)
 have c7:=X3b (ta+tb) (by unfold rm; omega)
 obtain ⟨k1,k2,k3,k4⟩:=XgS a b f ha hb hf
 have c8:=Xub _ _ (-(ta+tb)) 1000 k1 k2 (by omega) (by omega) (by rw [X6d]; omega) k3 k4
 change Fn _ _ [vA (f.lo.add f.hi),qA (Rat.divInt 1 2)] (vA (Xbr f)) at c3
 obtain ⟨V,hV⟩:∃ V,V=X4m a b f (ta+tb):=⟨_,rfl⟩
 change Fn _ _ _ (.tup [.any,.bool (X4m a b f (ta+tb))]) at c8
 rw [← hV] at c8 ⊢
 generalize Xbr f=M at *
 refine Fq Tryz.call151 Tryz.func151 11 [] [1,20000005,2,30000003,3,40000004,40000007] [] (by simp [X0o,X0s]) (X00 1000 ?_)
 simp (disch:=omega) only [AS.start,pvA,pvC,fvA,fvC,↓X0v,wD,↓X03,wA,seval,wE]
 refine X01 c1 rfl ?_
 simp (disch:=omega) only [↓X0v,wD,↓X03,wA,seval,wE]
 refine X01 c2 rfl ?_
 simp (disch:=omega) only [↓X0v,wD,↓X03,wA,seval,wE]
 refine X01 c3 rfl ?_
 simp (disch:=omega) only [↓X0v,wD,↓X03,wA,seval,wE]
 refine X01 XeF rfl ?_
 simp (disch:=omega) only [↓X0v,wD,↓X03,wA,seval,wE]
 refine X17 c4 ⟨Weak.rfl' _,Xi9,trivial⟩ ?_
 simp (disch:=omega) only [X0z,↓X0v,wD,↓X03,wA,seval,wE]
 refine X01 c5 rfl ?_
 simp (disch:=omega) only [X0z,↓X0v,wD,↓X03,wA,seval,wE]
 refine X01 c6 rfl ?_
 simp (disch:=omega) only [X0z,↓X0v,wD,↓X03,wA,seval,wE]
 refine X01 c7 rfl ?_
 simp (disch:=omega) only [X0z,↓X0v,wD,↓X03,wA,seval,wE]
 refine X01 c8 rfl ?_
 simp (disch:=omega) only [↓X0v,wD,↓X03,wA,seval,wE]
 exact X0r rfl rfl (X02 _) rfl
def X2I (a b:PV) (f:FV) (e:Rat):Int :=
 if XaY a.rim.length b.rim.length f then if XhD a b f then if Xno a b f then
  if (X0J a.rim b.rim f e).2.2=true∧(X0J a.rim b.rim f e).1=f.lo∧(X0J a.rim b.rim f e).2.1=f.hi then if X4m a b f e=true then 0 else 13
  else 22 else 21 else 12 else 5
theorem Xi6 (a b:PV) (f:FV) (na:X2e a.rim) (nb:X2e b.rim) (e:Rat) (ht:vb f.turn≤1000) (qe:qb e≤3000):vb (X0J a.rim b.rim f e).1≤7000∧vb (X0J a.rim b.rim f e).2.1≤7000:=by
 have z:=XaC
 have h1:=X6a na nb f ht f.M.toNat
 have h2:=X67 na nb f ht f.M.toNat
 have h3:=X2Y (loV a.rim b.rim f f.M.toNat) ⟨e,e⟩
 have h4:=X5Q (hiV a.rim b.rim f f.M.toNat) ⟨e,e⟩
 have h5:vb ⟨e,e⟩=qb e:=by unfold vb; simp
 unfold X0J
 split
 ·simp only
  split
  ·exact ⟨by show vb v0≤_; omega,by show vb v0≤_; omega⟩
  ·exact ⟨by simp only; omega,by simp only; omega⟩
 ·exact ⟨by show vb v0≤_; omega,by show vb v0≤_; omega⟩
theorem Xaf (a b:PV) (f:FV) {ta tb:Rat} (ha:GP a ta) (hb:GP b tb) (hf:f.fine):Fn Tryz.prog 61 [pvA a,pvA b,fvA f] (I (X2I a b f (ta+tb))):=by
 obtain ⟨V,hV⟩:∃ V,V=X2I a b f (ta+tb):=⟨_,rfl⟩
 rw [← hV]
 unfold X2I at hV
 have qa:=ha.qt; have q2:=hb.qt
 have qe:=X2n ta tb
 have f1:=hf.turn; have f2:=hf.lo; have f3:=hf.hi
 have fin:∀ {s:AS} {n:Int},s.get 6=I n→n=V→RetOk (X2f Tryz.prog Tryz.f61 [] [] (I V)) s:=fun h e=>X0r rfl h (X08 _) (by rw [e])
 have c1:=Xak a b f ha.even.rim hb.even.rim
 have c4:=Xah a b f ha.even hb.even (by omega) ha.tol hb.tol (by omega) (by omega)
 have ⟨g1,g2⟩:=Xi6 a b f ha.even.near hb.even.near (ta+tb) (by omega) (by omega)
 have c7:=Xag a b f ha hb hf
 refine Fq Tryz.call61 Tryz.func61 10 [] [] [] (by simp [X0o,X0s]) (X00 1000 ?_)
 simp (disch:=omega) only [AS.start,pvA,pvC,fvA,fvC,↓X0v,wD,↓X03,wA,seval,wE]
 refine X01 c1 rfl ?_
 by_cases h1:XaY a.rim.length b.rim.length f
 rotate_left
 ·simp (disch:=omega) only [decide_eq_false h1,↓X0v,wD,↓X03,wA,seval,wE]
  exact fin rfl (by rw [hV,if_neg h1])
 have c2:=X8S a b f h1 ha.even hb.even
 have c3:=Xfc a b f h1 ha.even hb.even (by unfold vm; omega)
 rw [if_pos h1] at hV
 simp (disch:=omega) only [decide_eq_true h1,↓X0v,wD,↓X03,wA,seval,wE]
 refine X01 c2 rfl ?_
 by_cases h2:XhD a b f
 rotate_left
 ·simp (disch:=omega) only [decide_eq_false h2,↓X0v,wD,↓X03,wA,seval,wE]
  exact fin rfl (by rw [hV,if_neg h2])
 rw [if_pos h2] at hV
 simp (disch:=omega) only [decide_eq_true h2,↓X0v,wD,↓X03,wA,seval,wE]
 refine X01 c3 rfl ?_
 by_cases h3:Xno a b f
 rotate_left
 ·simp (disch:=omega) only [decide_eq_false h3,↓X0v,wD,↓X03,wA,seval,wE]
  exact fin rfl (by rw [hV,if_neg h3])
 rw [if_pos h3] at hV
 simp (disch:=omega) only [decide_eq_true h3,↓X0v,wD,↓X03,wA,seval,wE]
 refine X01 c4 rfl ?_
 generalize X0J a.rim b.rim f (ta+tb)=G at *
 obtain ⟨lo,hi,ok⟩:=G
 simp only at hV g1 g2
 have c5:=X6x lo f.lo (by unfold vm; omega) (by unfold vm; omega)
 have c6:=X6x hi f.hi (by unfold vm; omega) (by unfold vm; omega)
 cases ok with
 | false =>
  simp (disch:=omega) only [↓X0v,wD,↓X03,wA,seval,wE]
  exact fin rfl (by rw [hV,if_neg (fun h=>by cases h.1)])
 | true =>
  simp (disch:=omega) only [↓X0v,wD,↓X03,wA,seval,wE]
  refine X01 c5 rfl ?_
  by_cases h4:lo=f.lo
  rotate_left
  ·simp (disch:=omega) only [decide_eq_false h4,↓X0v,wD,↓X03,wA,seval,wE]
   exact fin rfl (by rw [hV,if_neg (fun h=>h4 h.2.1)])
  simp (disch:=omega) only [decide_eq_true h4,↓X0v,wD,↓X03,wA,seval,wE]
  refine X01 c6 rfl ?_
  by_cases h5:hi=f.hi
  rotate_left
  ·simp (disch:=omega) only [decide_eq_false h5,↓X0v,wD,↓X03,wA,seval,wE]
   exact fin rfl (by rw [hV,if_neg (fun h=>h5 h.2.2)])
  rw [if_pos ⟨rfl,h4,h5⟩] at hV
  simp (disch:=omega) only [decide_eq_true h5,↓X0v,wD,↓X03,wA,seval,wE]
  refine X01 c7 rfl ?_
  cases h6:X4m a b f (ta+tb) with
  | false =>
   simp (disch:=omega) only [↓X0v,wD,↓X03,wA,seval,wE]
   exact fin rfl (by rw [hV,h6]; rfl)
  | true =>
   simp (disch:=omega) only [↓X0v,wD,↓X03,wA,seval,wE]
   exact fin rfl (by rw [hV,h6]; rfl)
theorem XdX (a b:PV) (f:FV) {ta tb:Rat} (ha:GP a ta) (hb:GP b tb) (hf:f.fine):Fn Tryz.prog 52 [pvA a,pvA b,fvA f] (I (X2I a b f (ta+tb))):=by
 obtain ⟨V,hV⟩:∃ V,V=X2I a b f (ta+tb):=⟨_,rfl⟩
 rw [← hV]
 unfold X2I at hV
 have qa:=ha.qt; have q2:=hb.qt
 have qe:=X2n ta tb
 have f1:=hf.turn; have f2:=hf.lo; have f3:=hf.hi
 have fin:∀ {s:AS} {n:Int},s.get 6=I n→n=V→RetOk (X2f Tryz.prog Tryz.f52 [] [] (I V)) s:=fun h e=>X0r rfl h (X08 _) (by rw [e])
 have c1:=X9M a b f ha.even.rim hb.even.rim
 have c4:=XgI a b f ha.even hb.even (by omega) ha.tol hb.tol (by omega) (by omega)
 have ⟨g1,g2⟩:=Xi6 a b f ha.even.near hb.even.near (ta+tb) (by omega) (by omega)
 have c7:=XlA a b f ha hb hf
 refine Fq Tryz.call52 Tryz.func52 10 [] [] [] (by simp [X0o,X0s]) (X00 1000 ?_)
 simp (disch:=omega) only [AS.start,pvA,pvC,fvA,fvC,↓X0v,wD,↓X03,wA,seval,wE]
 refine X01 c1 rfl ?_
 by_cases h1:XaY a.rim.length b.rim.length f
 rotate_left
 ·simp (disch:=omega) only [decide_eq_false h1,↓X0v,wD,↓X03,wA,seval,wE]
  exact fin rfl (by rw [hV,if_neg h1])
 have c2:=XfW a b f h1 ha.even hb.even
 have c3:=XiH a b f h1 ha.even hb.even
 have cl:=Xcf a b f f.M.toNat
 have hM:f.M.toNat<1000000:=by have:=h1.2.2.2.1; have:=ha.even.rim; omega
 have ca:=Xdh (X6Q a b f f.M.toNat) 142 [fvP f] (fun x=>decide (x=f.turn)) (by omega) (fun x hx=>by rw [List.mem_singleton.1 hx]; exact Xav f) (fun x hx=>Xl6 x f (by have:=Xb3 a b f ha.even.near hb.even.near _ x hx; unfold vm; omega) (by unfold vm; omega))
 have hany:(X6Q a b f f.M.toNat).any (fun x=>decide (x=f.turn))=decide (Xno a b f):=by
  have:=XgO a b f f.turn f.M.toNat
  cases hq:(X6Q a b f f.M.toNat).any (fun x=>decide (x=f.turn)) with
  | true=>exact (decide_eq_true (p:=Xno a b f) (this.1 hq)).symm
  | false=>exact (decide_eq_false (p:=Xno a b f) (fun hh=>by rw [this.2 hh] at hq; cases hq)).symm
 rw [hany] at ca
 generalize X6Q a b f f.M.toNat=W at *
 have sB:X4B [.row 0 25 (ofL (pvC a)),.row 0 25 (ofL (pvC b)),.row 0 29 (ofL (fvC f))] (.ref 2 0 0) (fvP f):=X4O (.inl rfl) (by omega) fun j hj=>(X0c (X10 f) j).sees _
 rw [if_pos h1] at hV
 simp (disch:=omega) only [decide_eq_true h1,↓X0v,wD,↓X03,wA,seval,wE]
 refine X01 c2 rfl ?_
 by_cases h2:XhD a b f
 rotate_left
 ·simp (disch:=omega) only [decide_eq_false h2,↓X0v,wD,↓X03,wA,seval,wE]
  exact fin rfl (by rw [hV,if_neg h2])
 rw [if_pos h2] at hV
 simp (disch:=omega) only [decide_eq_true h2,↓X0v,wD,↓X03,wA,seval,wE]
 refine X01 c3 rfl ?_
 simp (disch:=omega) only [X05,↓X0v,wD,↓X03,wA,seval,wE]
 refine X2l ca rfl ⟨(X0b W).sees _,X8w ⟨sB,trivial⟩,trivial⟩ (X5a _) ?_
 by_cases h3:Xno a b f
 rotate_left
 ·simp (disch:=omega) only [decide_eq_false h3,↓X0v,wD,↓X03,wA,seval,wE]
  exact fin rfl (by rw [hV,if_neg h3])
 rw [if_pos h3] at hV
 simp (disch:=omega) only [decide_eq_true h3,↓X0v,wD,↓X03,wA,seval,wE]
 refine X01 c4 rfl ?_
 generalize X0J a.rim b.rim f (ta+tb)=G at *
 obtain ⟨lo,hi,ok⟩:=G
 simp only at hV g1 g2
 have c5:=XcV lo f.lo (by unfold vm; omega) (by unfold vm; omega)
 have c6:=XcV hi f.hi (by unfold vm; omega) (by unfold vm; omega)
 cases ok with
 | false =>
  simp (disch:=omega) only [↓X0v,wD,↓X03,wA,seval,wE]
  exact fin rfl (by rw [hV,if_neg (fun h=>by cases h.1)])
 | true =>
  simp (disch:=omega) only [↓X0v,wD,↓X03,wA,seval,wE]
  refine X01 c5 rfl ?_
  by_cases h4:lo=f.lo
  rotate_left
  ·simp (disch:=omega) only [decide_eq_false h4,↓X0v,wD,↓X03,wA,seval,wE]
   exact fin rfl (by rw [hV,if_neg (fun h=>h4 h.2.1)])
  simp (disch:=omega) only [decide_eq_true h4,↓X0v,wD,↓X03,wA,seval,wE]
  refine X01 c6 rfl ?_
  by_cases h5:hi=f.hi
  rotate_left
  ·simp (disch:=omega) only [decide_eq_false h5,↓X0v,wD,↓X03,wA,seval,wE]
   exact fin rfl (by rw [hV,if_neg (fun h=>h5 h.2.2)])
  rw [if_pos ⟨rfl,h4,h5⟩] at hV
  simp (disch:=omega) only [decide_eq_true h5,↓X0v,wD,↓X03,wA,seval,wE]
  refine X01 c7 rfl ?_
  cases h6:X4m a b f (ta+tb) with
  | false =>
   simp (disch:=omega) only [↓X0v,wD,↓X03,wA,seval,wE]
   exact fin rfl (by rw [hV,h6]; rfl)
  | true =>
   simp (disch:=omega) only [↓X0v,wD,↓X03,wA,seval,wE]
   exact fin rfl (by rw [hV,h6]; rfl)
def X1f (a b:PV) (f:FV) (e:Rat):FV:={ f with lo:=(X0J a.rim b.rim f e).1,hi:=(X0J a.rim b.rim f e).2.1 }
theorem X8V (a b:PV) (f:FV) {ta tb:Rat} (ha:GP a ta) (hb:GP b tb) (hf:f.fine):Fn Tryz.prog 110 [pvA a,pvA b,fvA f] (fvA (X1f a b f (ta+tb)))∧Fn Tryz.prog 112 [pvA a,pvA b,fvA f] (fvA (X1f a b f (ta+tb))):=by
 have qa:=ha.qt; have q2:=hb.qt
 have f1:=hf.turn
 have c1:=XgI a b f ha.even hb.even (by omega) ha.tol hb.tol (by omega) (by omega)
 have c2:=Xah a b f ha.even hb.even (by omega) ha.tol hb.tol (by omega) (by omega)
 obtain ⟨R,hR⟩:∃ R,R=fvA (X1f a b f (ta+tb)):=⟨_,rfl⟩
 have sR:Settled R:=hR▸X0s _
 rw [← hR]
 unfold X1f at hR
 generalize X0J a.rim b.rim f (ta+tb)=G at *
 obtain ⟨lo,hi,ok⟩:=G
 constructor
 refine Fq Tryz.call110 Tryz.func110 7 [] [] [] (by simp [X0o,X0s]) (X00 1000 ?_)
 rotate_left
 refine Fq Tryz.call112 Tryz.func112 10 [] [] [] (by simp [X0o,X0s]) (X00 1000 ?_)
 all_goals
  simp (disch:=omega) only [AS.start,pvA,pvC,fvA,fvC,↓X0v,wD,↓X03,wA,seval,wE]
  first | refine X01 c1 rfl ?_ | refine X01 c2 rfl ?_
  simp (disch:=omega) only [↓X0v,wD,↓X03,wA,seval,wE]
  exact X6f rfl XcG rfl rfl rfl sR (hR.trans rfl)
def fv0:FV:=⟨0,0,0,0,0,v0,v0,v0⟩
def X5N (a b:PV) (f:FV) (ca cb:PV) (ta tb sa sb:Rat):FV×Int :=
 if (a=X5d a ca∧ta≤sa)∧(b=X5d b cb∧tb≤sb) then if X2I a b f (ta+tb)=0 then (X1f ca cb f (sa+sb),0) else (fv0,X2I a b f (ta+tb)) else (fv0,1)
def X4Y (a b:PV) (f:FV) (e:Rat):FV×Int:=if X2I a b (X1f a b f e) e=0 then (X1f a b f e,0) else (fv0,X2I a b (X1f a b f e) e)
def X84:List AV:=[I 0,I 0,I 0,I 0,I 0] ++ (X5W ++ (X5W ++ X5W))
theorem X9t:WeakL X84 (fvC fv0):=by
 obtain ⟨w1,w2,w3,w4,w5,w6,w7,w8,_⟩:=X3B
 exact ⟨Weak.rfl' _,Weak.rfl' _,Weak.rfl' _,Weak.rfl' _,Weak.rfl' _,w1,w2,w3,w4,w5,w6,w7,w8,w1,w2,w3,w4,w5,w6,w7,w8,w1,w2,w3,w4,w5,w6,w7,w8,trivial⟩
theorem X6s (a b:PV) (f:FV) (ca cb:PV) {ta tb sa sb:Rat} (ha:GP a ta) (hb:GP b tb) (hca:GP ca sa) (hcb:GP cb sb) (h1:a.small) (h2:b.small) (h3:ca.small) (h4:cb.small) (hf:f.fine) :
  Fn Tryz.prog 31 [pvA a,pvA b,fvA f,pvA ca,pvA cb] (.tup [fvA (X5N a b f ca cb ta tb sa sb).1,I (X5N a b f ca cb ta tb sa sb).2]) ∧
  Fn Tryz.prog 34 [pvA a,pvA b,fvA f,pvA ca,pvA cb] (.tup [fvA (X5N a b f ca cb ta tb sa sb).1,I (X5N a b f ca cb ta tb sa sb).2]):=by
 have i1:=XcE a ca h1 h3 ha.tol hca.tol
 have i2:=XcE b cb h2 h4 hb.tol hcb.tol
 have j1:=XlL a ca h1 h3 ha.tol hca.tol
 have j2:=XlL b cb h2 h4 hb.tol hcb.tol
 have k1:=XdX a b f ha hb hf
 have k2:=Xaf a b f ha hb hf
 obtain ⟨s1,s2⟩:=X8V ca cb f hca hcb hf
 obtain ⟨R,hR⟩:∃ R,R=X5N a b f ca cb ta tb sa sb:=⟨_,rfl⟩
 rw [← hR]
 unfold X5N at hR
 generalize X2I a b f (ta+tb)=k at *
 generalize X1f ca cb f (sa+sb)=G at *
 constructor
 refine Fq Tryz.call31 Tryz.func31 13 [] [] [] (by simp [X0o,X0s]) (X00 1000 ?_)
 rotate_left
 refine Fq Tryz.call34 Tryz.func34 13 [] [] [] (by simp [X0o,X0s]) (X00 1000 ?_)
 all_goals
  simp (disch:=omega) only [AS.start,pvA,pvC,fvA,fvC,↓X0v,wD,↓X03,wA,seval,wE]
  first | refine X01 i1 rfl ?_ | refine X01 j1 rfl ?_
  by_cases g1:a=X5d a ca∧ta≤sa
  rotate_left
  ·simp (disch:=omega) only [decide_eq_false g1,↓X0v,wD,↓X03,wA,seval,wE]
   rw [if_neg (fun h=>g1 h.1)] at hR
   subst hR
   exact X1s rfl (X0l (L:=X84) XcG rfl rfl rfl) (by unfold X1F; rfl) (X0n (X0s _) (X0I X9t)) ((X08 _).sees _)
  simp (disch:=omega) only [decide_eq_true g1,↓X0v,wD,↓X03,wA,seval,wE]
  first | refine X01 i2 rfl ?_ | refine X01 j2 rfl ?_
  by_cases g2:b=X5d b cb∧tb≤sb
  rotate_left
  ·simp (disch:=omega) only [decide_eq_false g2,↓X0v,wD,↓X03,wA,seval,wE]
   rw [if_neg (fun h=>g2 h.2)] at hR
   subst hR
   exact X1s rfl (X0l (L:=X84) XcG rfl rfl rfl) (by unfold X1F; rfl) (X0n (X0s _) (X0I X9t)) ((X08 _).sees _)
  rw [if_pos ⟨g1,g2⟩] at hR
  simp (disch:=omega) only [decide_eq_true g2,↓X0v,wD,↓X03,wA,seval,wE]
  first | refine X01 k1 rfl ?_ | refine X01 k2 rfl ?_
  by_cases g3:k=0
  rotate_left
  ·simp (disch:=omega) only [↓X0v,wD,↓X03,wA,seval,wE]
   rw [if_neg g3] at hR
   subst hR
   exact X1s rfl (X0l (L:=X84) XcG rfl rfl rfl) (by unfold X1F; rfl) (X0n (X0s _) (X0I X9t)) ((X08 _).sees _)
  simp (disch:=omega) only [↓X0v,wD,↓X03,wA,seval,wE]
  rw [if_pos g3] at hR
  first | refine X01 s1 rfl ?_ | refine X01 s2 rfl ?_
  simp (disch:=omega) only [fvA,fvC,↓X0v,wD,↓X03,wA,seval,wE]
  subst hR
  exact X1s rfl (X0l (L:=fvC G) XcG rfl rfl rfl) (by unfold X1F; rfl) (X1h (X0s _) rfl) ((X08 _).sees _)
theorem Xwj {a b:List (Int×Int)} (ha:X2e a) (hb:X2e b) (f:FV) (ht:vb f.turn≤60) (k:Nat):vb (dfV a b f k)≤150:=by
 have h1:=X2U ha (xK a.length f k)
 have h2:=X2U hb ((f.EB+1 - k) % b.length).toNat
 unfold dfV
 have h3:=X7Z f.turn (ptV (b.getD ((f.EB+1 - k) % b.length).toNat (0,0)))
 have h4:=X2Y (ptV (a.getD (xK a.length f k) (0,0))) (rot f.turn (ptV (b.getD ((f.EB+1 - k) % b.length).toNat (0,0))))
 omega
theorem Xca (a b:PV) (f:FV) (na:X2e a.rim) (nb:X2e b.rim) (e:Rat) (ht:vb f.turn≤60):vb (X0J a.rim b.rim f e).1≤155+qb e∧vb (X0J a.rim b.rim f e).2.1≤155+qb e:=by
 have z:=XaC
 have d:=Xwj na nb f ht
 have h1:vb (loV a.rim b.rim f f.M.toNat)≤150:=Nat.max_le.2 ⟨XeA _ 150 (fun j=>Nat.le_trans (X2w _) (d j)) _,XeA _ 150 (fun j=>Nat.le_trans (X2k _) (d j)) _⟩
 have h2:vb (hiV a.rim b.rim f f.M.toNat)≤150:=Nat.max_le.2 ⟨Xez _ 150 (fun j=>Nat.le_trans (X2w _) (d j)) _,Xez _ 150 (fun j=>Nat.le_trans (X2k _) (d j)) _⟩
 have h3:=X2Y (loV a.rim b.rim f f.M.toNat) ⟨e,e⟩
 have h4:=X5Q (hiV a.rim b.rim f f.M.toNat) ⟨e,e⟩
 have h5:vb ⟨e,e⟩=qb e:=by unfold vb; simp
 unfold X0J
 split
 ·simp only
  split
  ·exact ⟨by show vb v0≤_; omega,by show vb v0≤_; omega⟩
  ·exact ⟨by simp only; omega,by simp only; omega⟩
 ·exact ⟨by show vb v0≤_; omega,by show vb v0≤_; omega⟩
theorem X5t {a b:PV} {f:FV} {ta tb:Rat} (ha:GP a ta) (hb:GP b tb) (hf:f.fine):(X1f a b f (ta+tb)).fine:=by
 have:=ha.qt; have:=hb.qt
 have qe:=X2n ta tb
 obtain ⟨h1,h2⟩:=Xca a b f ha.even.near hb.even.near (ta+tb) hf.turn
 exact ⟨hf.turn,by show vb (X0J a.rim b.rim f (ta+tb)).1≤300; omega,by show vb (X0J a.rim b.rim f (ta+tb)).2.1≤300; omega⟩
theorem Xgd (a b:PV) (f:FV) {ta tb:Rat} (ha:GP a ta) (hb:GP b tb) (hf:f.fine) :
  Fn Tryz.prog 36 [pvA a,pvA b,fvA f] (.tup [fvA (X4Y a b f (ta+tb)).1,I (X4Y a b f (ta+tb)).2]) ∧
  Fn Tryz.prog 37 [pvA a,pvA b,fvA f] (.tup [fvA (X4Y a b f (ta+tb)).1,I (X4Y a b f (ta+tb)).2]):=by
 obtain ⟨s1,s2⟩:=X8V a b f ha hb hf
 have hg:=X5t ha hb hf
 have k1:=XdX a b _ ha hb hg
 have k2:=Xaf a b _ ha hb hg
 obtain ⟨R,hR⟩:∃ R,R=X4Y a b f (ta+tb):=⟨_,rfl⟩
 rw [← hR]
 unfold X4Y at hR
 generalize X1f a b f (ta+tb)=G at *
 generalize X2I a b G (ta+tb)=k at *
 constructor
 refine Fq Tryz.call36 Tryz.func36 10 [] [] [] (by simp [X0o,X0s]) (X00 1000 ?_)
 rotate_left
 refine Fq Tryz.call37 Tryz.func37 10 [] [] [] (by simp [X0o,X0s]) (X00 1000 ?_)
 all_goals
  simp (disch:=omega) only [AS.start,pvA,pvC,fvA,fvC,↓X0v,wD,↓X03,wA,seval,wE]
  first | refine X01 s1 rfl ?_ | refine X01 s2 rfl ?_
  simp (disch:=omega) only [fvA,fvC,↓X0v,wD,↓X03,wA,seval,wE]
  first | refine X01 k1 rfl ?_ | refine X01 k2 rfl ?_
  by_cases g3:k=0
  rotate_left
  ·simp (disch:=omega) only [↓X0v,wD,↓X03,wA,seval,wE]
   rw [if_neg g3] at hR
   subst hR
   exact X1s rfl (X0l (L:=X84) XcG rfl rfl rfl) (by unfold X1F; rfl) (X0n (X0s _) (X0I X9t)) ((X08 _).sees _)
  simp (disch:=omega) only [↓X0v,wD,↓X03,wA,seval,wE]
  rw [if_pos g3] at hR
  subst hR
  exact X1s rfl (X0l (L:=fvC G) XcG rfl rfl rfl) (by unfold X1F; rfl) (X1h (X0s _) rfl) ((X08 _).sees _)
theorem XwG (f g:FV):f=g↔(f.A=g.A∧f.B=g.B∧f.EA=g.EA∧f.EB=g.EB∧f.M=g.M)∧f.turn=g.turn∧f.lo=g.lo∧f.hi=g.hi:=by
 obtain ⟨a,b,c,d,e,t,l,h⟩:=f
 obtain ⟨a',b',c',d',e',t',l',h'⟩:=g
 simp [and_assoc]
theorem XbA (f g:FV) (hf:f.fine) (hg:g.fine):Fn Tryz.prog 35 [fvA f,fvA g] (.bool (decide (f=g))):=by
 obtain ⟨V,hV⟩:∃ V,V=decide (f=g):=⟨_,rfl⟩
 rw [← hV]
 rw [decide_eq_decide.2 (XwG f g)] at hV
 have fin:∀ {s:AS} {v:Bool},s.get 4=.bool v→v=V→RetOk (X2f Tryz.prog Tryz.f35 [] [] (.bool V)) s:=fun h e=>X0r rfl h (X02 _) (by rw [e])
 obtain ⟨f1,f2,f3⟩:=hf
 obtain ⟨g1,g2,g3⟩:=hg
 have c1:=X3E f.turn g.turn (by unfold vm; omega) (by unfold vm; omega)
 have c2:=X6x f.lo g.lo (by unfold vm; omega) (by unfold vm; omega)
 have c3:=X6x f.hi g.hi (by unfold vm; omega) (by unfold vm; omega)
 refine Fq Tryz.call35 Tryz.func35 5 [] [] [] (by simp [X0s]) (X00 1000 ?_)
 by_cases h:f.A=g.A∧f.B=g.B∧f.EA=g.EA∧f.EB=g.EB∧f.M=g.M
 rotate_left
 ·have hv:false=V:=by rw [hV]; exact (decide_eq_false fun hh=>h hh.1).symm
  rcases (show f.A≠g.A∨(f.A=g.A∧f.B≠g.B)∨(f.A=g.A∧f.B=g.B∧f.EA≠g.EA)∨(f.A=g.A∧f.B=g.B∧f.EA=g.EA∧f.EB≠g.EB)∨(f.A=g.A∧f.B=g.B∧f.EA=g.EA∧f.EB=g.EB∧f.M≠g.M) by omega) with q | ⟨q1,q⟩ | ⟨q1,q2,q⟩ | ⟨q1,q2,q3,q⟩ | ⟨q1,q2,q3,q4,q⟩
  ·simp only [AS.start,fvA,fvC,eq_false q,↓X03,wA,seval,wE]
   exact fin rfl hv
  ·simp only [AS.start,fvA,fvC,eq_true q1,eq_false q,↓X03,wA,seval,wE]
   exact fin rfl hv
  ·simp only [AS.start,fvA,fvC,eq_true q1,eq_true q2,eq_false q,↓X03,wA,seval,wE]
   exact fin rfl hv
  ·simp only [AS.start,fvA,fvC,eq_true q1,eq_true q2,eq_true q3,eq_false q,↓X03,wA,seval,wE]
   exact fin rfl hv
  ·simp only [AS.start,fvA,fvC,eq_true q1,eq_true q2,eq_true q3,eq_true q4,eq_false q,↓X03,wA,seval,wE]
   exact fin rfl hv
 have e:V=decide (f.turn=g.turn∧f.lo=g.lo∧f.hi=g.hi):=by rw [hV]; exact decide_eq_decide.2 ⟨fun hh=>hh.2,fun hh=>⟨h,hh⟩⟩
 clear hV
 simp (disch:=omega) only [AS.start,fvA,fvC,↓X0v,wD,↓X03,wA,seval,wE]
 refine X01 c1 rfl ?_
 by_cases n1:f.turn=g.turn
 rotate_left
 ·simp (disch:=omega) only [decide_eq_false n1,↓X0v,wD,↓X03,wA,seval,wE]
  exact fin rfl (by rw [e]; exact (decide_eq_false fun hh=>n1 hh.1).symm)
 simp (disch:=omega) only [decide_eq_true n1,↓X0v,wD,↓X03,wA,seval,wE]
 refine X01 c2 rfl ?_
 by_cases n2:f.lo=g.lo
 rotate_left
 ·simp (disch:=omega) only [decide_eq_false n2,↓X0v,wD,↓X03,wA,seval,wE]
  exact fin rfl (by rw [e]; exact (decide_eq_false fun hh=>n2 hh.2.1).symm)
 simp (disch:=omega) only [decide_eq_true n2,↓X0v,wD,↓X03,wA,seval,wE]
 refine X01 c3 rfl ?_
 simp (disch:=omega) only [↓X0v,wD,↓X03,wA,seval,wE]
 exact fin rfl (by rw [e]; exact decide_eq_decide.2 ⟨fun hh=>⟨n1,n2,hh⟩,fun hh=>hh.2.2⟩)
theorem vT {V:Bool} {P:Prop} (h:V=true↔P) (p:P):true=V:=(h.2 p).symm
theorem vN {V:Bool} {P:Prop} (h:V=true↔P) (p:¬ P):false=V:=by
 cases V with
 | true=>exact absurd (h.1 rfl) p
 | false=>rfl
theorem vI {V:Bool} {P Q:Prop} [Decidable Q] (h:V=true↔P) (e:P↔Q):decide Q=V:=by
 by_cases q:Q
 ·rw [decide_eq_true q]; exact vT h (e.2 q)
 ·rw [decide_eq_false q]; exact vN h fun p=>q (e.1 p)
def Xsi (t u:V2):Prop:=t.x<u.x∨(t.x=u.x∧t.y<u.y)
theorem XpX (a b:Rat):X1Z a b=0↔a=b:=by
 have h1:=X5H a b; have h2:=Xad a b
 exact ⟨fun h=>Rat.le_antisymm (h1.1 (by omega)) (h2.1 (by omega)),fun h=>by subst h; have:=h1.2 Rat.le_refl; have:=h2.2 Rat.le_refl; omega⟩
theorem XkM (t u:V2) (ht:vb t≤vm) (hu:vb u≤vm):Fn Tryz.prog 232 [vA t,vA u] (.bool (decide (Xsi t u))):=by
 obtain ⟨V,hV⟩:∃ V,V=decide (Xsi t u):=⟨_,rfl⟩
 rw [← hV]
 replace hV:=(Bool.eq_iff_iff.1 hV).trans decide_eq_true_iff
 have fin:∀ {s:AS} {v:Bool},s.get 4=.bool v→v=V→RetOk (X2f Tryz.prog Tryz.f232 [] [] (.bool V)) s:=fun h e=>X0r rfl h (X02 _) (by rw [e])
 have:=X2w t; have:=X2w u; have:=X2k t; have:=X2k u
 unfold vm at ht hu
 have c1:=X1q t.x u.x (by unfold rm; omega) (by unfold rm; omega)
 have c2:=X1q t.y u.y (by unfold rm; omega) (by unfold rm; omega)
 have e1:=X2N t.x u.x
 have e2:=XpX t.x u.x
 have e3:=X2N t.y u.y
 unfold Xsi at hV
 rw [← e1,← e2,← e3] at hV
 generalize X1Z t.x u.x=p at *
 generalize X1Z t.y u.y=q at *
 refine Fq Tryz.call232 Tryz.func232 6 [] [] [] (by simp [X0k]) (X00 1000 ?_)
 simp (disch:=omega) only [AS.start,↓X0v,wD,↓X03,wA,seval,wE]
 refine X01 c1 rfl ?_
 rcases (show p<0∨p=0∨0<p by omega) with h | h | h
 ·simp (disch:=omega) only [↓X0v,wD,↓X03,wA,seval,wE]
  exact fin rfl (vT hV (.inl h))
 ·simp (disch:=omega) only [↓X0v,wD,↓X03,wA,seval,wE]
  refine X01 c2 rfl ?_
  simp (disch:=omega) only [↓X0v,wD,↓X03,wA,seval,wE]
  exact fin rfl (vI hV ⟨fun hh=>by omega,fun hh=>.inr ⟨h,hh⟩⟩)
 ·simp (disch:=omega) only [↓X0v,wD,↓X03,wA,seval,wE]
  exact fin rfl (vN hV ((by omega)))
def Xmj (n m:Nat) (f g:FV):Prop:=f.M<g.M∧(f.EA - g.EA) % n+f.M≤g.M∧(g.EB - (f.EA - g.EA) % n) % m=f.EB∧f.turn=g.turn
structure FV.near (f:FV):Prop where
 ea:-1000000≤f.EA∧f.EA≤1000000
 eb:-1000000≤f.EB∧f.EB≤1000000
 m:-1000000≤f.M∧f.M≤1000000
theorem XtY (a b:PV) (f g:FV) (ha:0<a.rim.length∧a.rim.length<1000000) (hb:0<b.rim.length∧b.rim.length<1000000) (nf:f.near) (ng:g.near) (hf:vb f.turn≤vm) (hg:vb g.turn≤vm) :
  Fn Tryz.prog 53 [pvA a,pvA b,fvA f,fvA g] (.bool (decide (Xmj a.rim.length b.rim.length f g))):=by
 obtain ⟨V,hV⟩:∃ V,V=decide (Xmj a.rim.length b.rim.length f g):=⟨_,rfl⟩
 rw [← hV]
 replace hV:=(Bool.eq_iff_iff.1 hV).trans decide_eq_true_iff
 have fin:∀ {s:AS} {v:Bool},s.get 8=.bool v→v=V→RetOk (X2f Tryz.prog Tryz.f53 [2,30000005,30000006,30000007] [] (.bool V)) s:=fun h e=>X0r rfl h (X02 _) (by rw [e])
 obtain ⟨f1,f2,f3⟩:=nf
 obtain ⟨g1,g2,g3⟩:=ng
 have d0:=Int.emod_nonneg (f.EA - g.EA) (show (a.rim.length:Int)≠0 by omega)
 have d1:=Int.emod_lt_of_pos (f.EA - g.EA) (show (0:Int)<a.rim.length by omega)
 have c1:=X0T (f.EA - g.EA) a.rim.length ha.1 (by omega) (by omega)
 have c2:=X0T (g.EB - (f.EA - g.EA) % a.rim.length) b.rim.length hb.1 (by omega) (by omega)
 have c3:=X3E f.turn g.turn hf hg
 unfold Xmj at hV
 generalize (f.EA - g.EA) % (a.rim.length:Int)=d at *
 generalize (g.EB - d) % (b.rim.length:Int)=r at *
 refine Fq Tryz.call53 Tryz.func53 10 [] [2,30000005,30000006,30000007] [] (by simp [X0o,X0s]) (X00 1000 ?_)
 simp (disch:=omega) only [AS.start,pvA,pvC,fvA,fvC,↓X0v,wD,↓X03,wA,seval,wE]
 refine X01 c1 rfl ?_
 by_cases h1:f.M<g.M
 rotate_left
 ·simp (disch:=omega) only [↓X0v,wD,↓X03,wA,seval,wE]
  exact fin rfl (vN hV (fun hh=>h1 hh.1))
 by_cases h2:d+f.M≤g.M
 rotate_left
 ·simp (disch:=omega) only [↓X0v,wD,↓X03,wA,seval,wE]
  exact fin rfl (vN hV (fun hh=>h2 hh.2.1))
 simp (disch:=omega) only [↓X0v,wD,↓X03,wA,seval,wE]
 refine X01 c2 rfl ?_
 by_cases h3:r=f.EB
 rotate_left
 ·simp (disch:=omega) only [↓X0v,wD,↓X03,wA,seval,wE]
  exact fin rfl (vN hV (fun hh=>h3 hh.2.2.1))
 simp (disch:=omega) only [↓X0v,wD,↓X03,wA,seval,wE]
 refine X01 c3 rfl ?_
 simp (disch:=omega) only [↓X0v,wD,↓X03,wA,seval,wE]
 exact fin rfl (vI hV ⟨fun hh=>hh.2.2.2,fun hh=>⟨h1,h2,h3,hh⟩⟩)
def X6E (t:V2):V2:=⟨-t.y,t.x⟩
def X2o:Nat→V2→V2
 | 0,t=>t
 | i+1,t=>X6E (X2o i t)
theorem XqC (t:V2):vb (X6E t)=vb t:=by unfold vb X6E; simp only [X6d]; exact Nat.max_comm _ _
theorem X6j (t:V2):∀ i,vb (X2o i t)=vb t
 | 0=>rfl
 | i+1=>(XqC _).trans (X6j t i)
def Xn4 (m w:Int):V2:=⟨Rat.divInt (m*m - w*w) (m*m+w*w),Rat.divInt (2*m*w) (m*m+w*w)⟩
def Xqy (n:Int):V2:=X2o (X0Z n 64 % 4).toNat (Xn4 (1+X0Z n 64 / 4 % 4) (X0Z n 64 / 16))
theorem Xn5 (n:Int) (hn:X51 n):Fn Tryz.prog 60 [I n] (vA (Xqy n))∧vb (Xqy n)≤3:=by
 have c1:=X1Y n 64 hn (by omega)
 have hk:=X1g n 64 (by omega)
 unfold Xqy
 generalize X0Z n 64=k at *
 have b1:k.tdiv 4=k / 4:=Int.tdiv_eq_ediv_of_nonneg hk.1
 have b2:(k / 4).tmod 4=k / 4 % 4:=Int.tmod_eq_emod_of_nonneg (by omega)
 have b3:k.tdiv 16=k / 16:=Int.tdiv_eq_ediv_of_nonneg hk.1
 have b4:k.tmod 4=k % 4:=Int.tmod_eq_emod_of_nonneg hk.1
 have hm:1≤1+k / 4 % 4∧1+k / 4 % 4≤4:=by omega
 have hw:0≤k / 16∧k / 16≤3:=by omega
 generalize hme:1+k / 4 % 4=m at *
 generalize k / 16=w at *
 have q1:1≤m*m∧m*m≤16:=by rcases (show m=1∨m=2∨m=3∨m=4 by omega) with rfl | rfl | rfl | rfl <;> decide
 have q2:0≤w*w∧w*w≤9:=by rcases (show w=0∨w=1∨w=2∨w=3 by omega) with rfl | rfl | rfl | rfl <;> decide
 have q3:0≤2*m*w∧2*m*w≤24:=by rcases (show w=0∨w=1∨w=2∨w=3 by omega) with rfl | rfl | rfl | rfl <;> omega
 have c2:=X1M (m*m - w*w) (m*m+w*w) ⟨by omega,by omega⟩ ⟨by omega,by omega⟩
 have c3:=X1M (2*m*w) (m*m+w*w) ⟨by omega,by omega⟩ ⟨by omega,by omega⟩
 have v1:=X5O (m*m - w*w) (m*m+w*w) ⟨by omega,by omega⟩ ⟨by omega,by omega⟩
 have v2:=X5O (2*m*w) (m*m+w*w) ⟨by omega,by omega⟩ ⟨by omega,by omega⟩
 have hvb:vb (Xn4 m w)≤3:=Nat.max_le.2 ⟨v1,v2⟩
 change Fn _ _ _ (qA (Xn4 m w).x) at c2
 change Fn _ _ _ (qA (Xn4 m w).y) at c3
 generalize Xn4 m w=T at *
 obtain ⟨N,hN⟩:∃ N:Nat,k % 4=N:=⟨(k % 4).toNat,by omega⟩
 rw [hN,Int.toNat_natCast]
 refine ⟨?_,by rw [X6j]; exact hvb⟩
 obtain ⟨R,hR⟩:∃ R,R=vA (X2o N T):=⟨_,rfl⟩
 have sR:Settled R:=hR▸X0k _
 rw [← hR]
 refine Fq Tryz.call60 Tryz.func60 9 [] [] [] (by simp [X08]) (X00 1000 ?_)
 simp (disch:=omega) only [AS.start,b1,b2,b3,b4,hme,↓X0v,wD,↓X03,wA,seval,wE]
 refine X01 c1 rfl ?_
 simp (disch:=omega) only [b1,b2,b3,b4,hme,↓X0v,wD,↓X03,wA,seval,wE]
 refine X01 c2 rfl ?_
 simp (disch:=omega) only [b1,b2,b3,b4,hme,↓X0v,wD,↓X03,wA,seval,wE]
 refine X01 c3 rfl ?_
 simp (disch:=omega) only [b1,b2,b3,b4,hme,↓X0v,wD,↓X03,wA,seval,wE]
 have ht:∀ i,vb (X2o i T)≤3:=fun i=>by rw [X6j]; exact hvb
 refine X0d (fun i:Nat=>⟨9,[],[.any,.any,.ref 0 0 0,I k,.any,.any,.any,.ref 1 0 0,I i],[],[.row 0 8 (ofL X0R),.row 0 8 (ofL (vC (X2o i T)))]⟩) (fun i=>i≤N) (fun i=>N - i) 0 (by omega)
  (X09 rfl (by simp [X0p,I]) (by simp [X0q]) rfl) ?_
 intro i hi next
 have c4:=X3b (X2o i T).y (by have:=X2k (X2o i T); have:=ht i; unfold rm; omega)
 by_cases hi2:i<N
 ·refine X00 1000 ?_
  simp (disch:=omega) only [vC,qC,b4,hN,↓X0v,wD,↓X03,wA,seval,wE]
  refine X01 c4 rfl ?_
  simp (disch:=omega) only [↓X0v,wD,↓X03,wA,seval,wE]
  exact next (i+1) _ (by omega) (by omega) (X09 rfl (by simp [X0p,I]) (by simp [X0q]) rfl)
 ·obtain rfl:i=N:=by omega
  refine X00 1000 ?_
  simp (disch:=omega) only [vC,qC,X0R,b4,hN,↓X0v,wD,↓X03,wA,seval,wE]
  exact X6f rfl X8Y rfl rfl rfl sR (hR.trans rfl)
theorem XkO (f:FV) (ht:vb f.turn≤60) (hl:vb f.lo≤250) (hh:vb f.hi≤250) (how n:Int) (ih:X51 how) (hn:X51 n):∃ g:FV,Fn Tryz.prog 33 [fvA f,I how,I n] (fvA g)∧g.fine:=by
 have c1:=X1Y n 9 hn (by omega)
 have c2:=X1Y how 8 ih (by omega)
 have k1:=X1g n 9 (by omega)
 have k2:=X1g how 8 (by omega)
 obtain ⟨c3,t3⟩:=Xn5 n hn
 have c4:=Xm7 n hn
 have t4:qb (Xvf n)≤3:=by
  have:=X1g n 100 (by omega)
  unfold Xvf
  generalize X0Z n 100=k at *
  rw [Int.tmod_eq_emod_of_nonneg this.1,Int.tdiv_eq_ediv_of_nonneg this.1]
  exact X5O _ _ ⟨by omega,by omega⟩ ⟨by omega,by omega⟩
 generalize X0Z n 9=x at *
 generalize X0Z how 8=c at *
 generalize Xqy n=T at *
 generalize Xvf n=q at *
 have c5:=X3k (x - 4) 0 ⟨by omega,by omega⟩ ⟨by omega,by omega⟩
 have c6:=X3k 0 (x - 4) ⟨by omega,by omega⟩ ⟨by omega,by omega⟩
 have s5:vb ⟨((x - 4:Int):Rat),((0:Int):Rat)⟩≤3:=Nat.max_le.2 ⟨X3j _ 3 (by omega) (X1n ⟨by omega,by omega⟩),X3j _ 3 (by omega) (X1n ⟨by omega,by omega⟩)⟩
 have s6:vb ⟨((0:Int):Rat),((x - 4:Int):Rat)⟩≤3:=Nat.max_le.2 ⟨X3j _ 3 (by omega) (X1n ⟨by omega,by omega⟩),X3j _ 3 (by omega) (X1n ⟨by omega,by omega⟩)⟩
 generalize hv5:(⟨((x - 4:Int):Rat),((0:Int):Rat)⟩:V2)=v5 at *
 generalize hv6:(⟨((0:Int):Rat),((x - 4:Int):Rat)⟩:V2)=v6 at *
 have c7:=X5m f.lo v5 (by unfold vm; omega) (by unfold vm; omega)
 have c8:=X5m f.hi v6 (by unfold vm; omega) (by unfold vm; omega)
 have m7:=X5Q f.lo v5
 have m8:=X5Q f.hi v6
 have ty:=X2k f.turn
 have m9:vb ⟨q,f.turn.y⟩≤60:=Nat.max_le.2 ⟨by show qb q≤60; omega,by show qb f.turn.y≤60; omega⟩
 have go:∀ g:FV,(∀ R,R=fvA g→Fn Tryz.prog 33 [fvA f,I how,I n] R)→g.fine→∃ g:FV,Fn Tryz.prog 33 [fvA f,I how,I n] (fvA g)∧g.fine:=fun g h1 h2=>⟨g,h1 _ rfl,h2⟩
 rcases (show c=0∨c=1∨c=2∨c=3∨c=4∨c=5∨c=6∨c=7 by omega) with rfl | rfl | rfl | rfl | rfl | rfl | rfl | rfl
 refine go { f with EA:=x - 1 } ?_ ⟨ht,by show vb f.lo≤300; omega,by show vb f.hi≤300; omega⟩
 rotate_left
 refine go { f with EB:=x - 1 } ?_ ⟨ht,by show vb f.lo≤300; omega,by show vb f.hi≤300; omega⟩
 rotate_left
 refine go { f with M:=x - 1 } ?_ ⟨ht,by show vb f.lo≤300; omega,by show vb f.hi≤300; omega⟩
 rotate_left
 refine go { f with turn:=T } ?_ ⟨by show vb T≤60; omega,by show vb f.lo≤300; omega,by show vb f.hi≤300; omega⟩
 rotate_left
 refine go { f with lo:=f.lo.add v5 } ?_ ⟨ht,by show vb (f.lo.add v5)≤300; omega,by show vb f.hi≤300; omega⟩
 rotate_left
 refine go { f with hi:=f.hi.add v6 } ?_ ⟨ht,by show vb f.lo≤300; omega,by show vb (f.hi.add v6)≤300; omega⟩
 rotate_left
 refine go { f with turn:=⟨q,f.turn.y⟩ } ?_ ⟨m9,by show vb f.lo≤300; omega,by show vb f.hi≤300; omega⟩
 rotate_left
 refine go { f with EA:=IntKind.i64.wrap (f.EA+1),EB:=IntKind.i64.wrap (f.EB - 1),M:=IntKind.i64.wrap (f.M - 1) } ?_ ⟨ht,by show vb f.lo≤300; omega,by show vb f.hi≤300; omega⟩
 rotate_left
 all_goals
  intro R hR
  have sR:Settled R:=hR▸X0s _
  refine Fq Tryz.call33 Tryz.func33 8 [11] [] [] (by simp [X0s,X08]) (X00 1000 ?_)
  simp (disch:=omega) only [AS.start,fvA,fvC,↓X0v,wD,↓X03,wA,seval,wE]
  refine X01 c1 rfl ?_
  simp (disch:=omega) only [↓X0v,wD,↓X03,wA,seval,wE]
  refine X01 c2 rfl ?_
  simp (disch:=omega) only [↓X0v,wD,↓X03,wA,seval,wE]
  try (first | refine X01 c3 rfl ?_ | refine X01 c4 rfl ?_ | refine X01 c5 rfl ?_ | refine X01 c6 rfl ?_)
  try simp (disch:=omega) only [↓X0v,wD,↓X03,wA,seval,wE]
  try (first | refine X01 c7 rfl ?_ | refine X01 c8 rfl ?_)
  try simp (disch:=omega) only [↓X0v,wD,↓X03,wA,seval,wE]
  exact X6f rfl XcG rfl rfl rfl sR (hR.trans rfl)
end
end Go.Ab.N
