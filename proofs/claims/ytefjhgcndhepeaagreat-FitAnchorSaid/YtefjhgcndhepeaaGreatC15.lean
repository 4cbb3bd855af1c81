/- Contracts of functions of these chapters, for every argument that fits, and what they need. -/
import Derived.Test.YtefjhgcndhepeaaGreatC13
import Derived.Test.YtefjhgcndhepeaaGreatC14
import Derived.Test.YtefjhgcndhepeaaGreatC12
set_option linter.unusedSimpArgs false
set_option linter.unusedVariables false
open Nat renaming reducePow → Y1, reduceLT → Y2, reduceLeDiff → Y3, reduceEqDiff → Y4, reduceAdd → Y5, reduceMul → Y6, reduceSub → Y7, reduceBEq → Y8, reduceDiv → Y9, reduceMod → YA
namespace Go.Ab.N
open Go Go.RowKit Go.Proofs
noncomputable section
set_option maxRecDepth 10000
set_option maxHeartbeats 4000000
open Classical
theorem Ro {R:List (Int×Int)} (hn:QP R) (k:Nat):((0≤(FT R k).1*(FT R k).1∧(FT R k).1*(FT R k).1≤17179869184)∧(0≤(FT R k).2*(FT R k).2∧(FT R k).2*(FT R k).2≤17179869184))∧0≤RP R k∧RP R k≤34359738368:=by
 have h0:=CY hn k
 unfold RP
 generalize FT R k=D at *
 have key:∀ x:Int,-131072≤x∧x≤131072→0≤x*x∧x*x≤17179869184:=fun x hx=>by
  rcases Int.le_total 0 x with h | h
  ·exact ⟨Int.mul_nonneg h h,Int.mul_le_mul hx.2 hx.2 h (by omega)⟩
  ·have:=Int.mul_le_mul (show -x≤131072 by omega) (show -x≤131072 by omega) (by omega) (by omega)
   rw [Int.neg_mul_neg] at this
   exact ⟨Int.mul_nonneg_of_nonpos_of_nonpos h h,this⟩
 have h1:=key D.1 h0.1
 have h2:=key D.2 h0.2
 omega
def pR (a b:PV) (f:FV) (k:Nat):Int:=if a.marks.getD (xK a.rim.length f k) 0≠0∧a.marks.getD (xK a.rim.length f k) 0=b.marks.getD (yK b.rim.length f k) 0 then 1000 else 0
def R9 (a b:PV) (f:FV):Nat→Int
 | 0=>0
 | k+1=>R9 a b f k+RP a.rim (xK a.rim.length f k)+pR a b f k
def Gp (a b:PV) (f:FV):Int:=if BF a.rim.length b.rim.length f then R9 a b f f.M.toNat else 0
theorem MJ {a:PV} (b:PV) (f:FV) (hn:QP a.rim):∀ k:Nat,0≤R9 a b f k∧R9 a b f k≤34359739368*k
 | 0=>by simp [R9]
 | k+1=>by
  have ih:=MJ b f hn k
  have h:=(Ro hn (xK a.rim.length f k)).2
  have h2:0≤pR a b f k∧pR a b f k≤1000:=by unfold pR; split <;> omega
  simp only [R9]
  omega
theorem Wz (a b:PV) (f:FV) (ha:a.even) (hb:b.even):Fn Tryz.prog 62 [Jg a,Jg b,KP f] (I (Gp a b f)):=by
 have la:=ha.rim; have lb:=hb.rim
 have cs:=D4 a b f la lb
 obtain ⟨V,hV⟩:∃ V,V=Gp a b f:=⟨_,rfl⟩
 rw [← hV]
 have fin:∀ {s:AS} {v:Int},s.get 6=I v→v=V→RetOk (QX Tryz.prog Tryz.f62 [] [] (I V)) s:=fun h e=>Xt rfl h (Xa _) (by rw [e])
 by_cases hf:BF a.rim.length b.rim.length f
 rotate_left
 ·rw [decide_eq_false hf] at cs
  refine Fq Tryz.call62 Tryz.func62 11 [19,20,21] [] [] (by simp [XC,Qk]) (X1 1000 ?_)
  simp (disch:=omega) only [AS.start,Jg,XO,KP,Qa,↓Xk,wD,↓X2,wA,seval,wE]
  refine X0 cs rfl ?_
  simp (disch:=omega) only [↓Xk,wD,↓X2,wA,seval,wE]
  exact fin rfl (by rw [hV]; unfold Gp; rw [if_neg hf])
 rw [decide_eq_true hf] at cs
 have ce:=F3 a b f hf la lb
 have hVe:V=R9 a b f f.M.toNat:=by rw [hV]; unfold Gp; rw [if_pos hf]
 obtain ⟨⟨s1,s2⟩,⟨s3,s4⟩,s5,s6,s7⟩:=hf
 obtain ⟨N,hN⟩:∃ N:Nat,f.M=N:=⟨f.M.toNat,by omega⟩
 rw [hN,Int.toNat_natCast] at hVe
 obtain ⟨L,hL⟩:∃ L,L=CZ a.rim.length b.rim.length f:=⟨_,rfl⟩
 have hlen:L.length=N:=by rw [hL,AG,hN]; rfl
 have hat:∀ k,k<N→L.getD k (0,0)=((xK a.rim.length f k:Int),(yK b.rim.length f k:Int)):=fun k hk=>by rw [hL]; exact DL _ _ _ _ (by omega)
 rw [← hL] at ce
 clear hL
 have ba:XQ 3 (.row 0 25 (Xo (XO a)))=True:=eq_true (XE (XG a))
 have bb:XQ 3 (.row 0 25 (Xo (XO b)))=True:=eq_true (XE (XG b))
 have bf:XQ 3 (.row 0 29 (Xo (Qa f)))=True:=eq_true (XE (Qd f))
 have bL:Kl 3 (CO L)=True:=eq_true (X8 (Qt _))
 refine Fq Tryz.call62 Tryz.func62 11 [19,20,21] [] [] (by simp [XC,Qk]) (X1 1000 ?_)
 simp (disch:=omega) only [AS.start,Jg,XO,KP,Qa,↓Xk,wD,↓X2,wA,seval,wE]
 refine X0 cs rfl ?_
 simp (disch:=omega) only [XO,Qa,↓Xk,wD,↓X2,wA,seval,wE]
 refine X0 ce rfl ?_
 simp (disch:=omega) only [Xh,hlen,↓Xk,wD,↓X2,wA,seval,wE]
 refine Xf (fun k:Nat=>⟨11,[19,20,21],[.any,.any,.any,.ref 0 0 0,.ref 1 0 0,.ref 2 0 0,.any,I (R9 a b f k),.any,.any,.any],[(19,CO L),(20,I N),(21,I k)],[.row 0 25 (Xo (XO a)),.row 0 25 (Xo (XO b)),.row 0 29 (Xo (Qa f))]⟩) (fun k=>k≤N) (fun k=>N - k) 0 (by omega)
  (Xb rfl (by simp [Xi,I,R9]) (by simp [Xj,Xp,Xh,hlen,I]) (by simp [XO,Qa,Xh,Xr,X4,I,sg])) ?_
 intro k hk next
 by_cases hk2:k<N
 rotate_left
 ·obtain rfl:k=N:=by omega
  refine X1 1000 ?_
  simp (disch:=omega) only [↓Xk,wD,↓X2,wA,seval,wE]
  exact fin rfl hVe.symm
 have hx:=Vh a.rim.length f k (by omega)
 have hy:=ns b.rim.length f k (by omega)
 have cq:=EC a (xK a.rim.length f k) hx la ha.near
 have bq:=(Ro ha.near (xK a.rim.length f k)).2
 have bn:=MJ b f ha.near k
 have v1:=ls L k
 rw [hat k hk2] at v1
 have hnext:R9 a b f (k+1)=R9 a b f k+RP a.rim (xK a.rim.length f k)+pR a b f k:=rfl
 have hsc:pR a b f k=if a.marks.getD (xK a.rim.length f k) 0≠0∧a.marks.getD (xK a.rim.length f k) 0=b.marks.getD (yK b.rim.length f k) 0 then 1000 else 0:=rfl
 have ea:=ha.marks; have eb:=hb.marks
 generalize RP a.rim (xK a.rim.length f k)=Q at *
 generalize xK a.rim.length f k=X at *
 generalize yK b.rim.length f k=Y at *
 have w1:IntKind.i64.wrap (R9 a b f k+Q)=R9 a b f k+Q:=by rw [IntKind.wrap_i64]; omega
 have w2:IntKind.i64.wrap (R9 a b f k+Q+1000)=R9 a b f k+Q+1000:=by rw [IntKind.wrap_i64]; omega
 have c0:∀ c,pR a b f k=c→R9 a b f (k+1)=R9 a b f k+Q+c:=fun c hc=>by rw [hnext,hc]
 have t1:(1:Int).toNat=1:=rfl
 by_cases h0:a.marks.getD X 0=0
 ·have e:=c0 0 (by rw [hsc,if_neg (fun h=>h.1 h0)])
  rw [Int.add_zero] at e
  refine X1 1000 ?_
  simp (disch:=omega) only [v1,w1,hlen,Xh,XO,Qa,X4,↓Xk,wD,↓X2,wA,seval,wE]
  refine X0 cq rfl ?_
  simp (disch:=omega) only [v1,w1,hlen,eq_true h0,Xh,XO,Qa,X4,↓Xk,wD,↓X2,wA,seval,wE]
  exact next (k+1) _ (by omega) (by omega) (Xz (m:=3) (Nat.zero_le _) rfl (by simp [Xi,I,e]) (by simp [Xj,Xp,Xh,hlen,I]) (by simp [XO,Qa,Xh,Xr,X4,I,sg]) (by simp [XA]) (by simp [XA,bL]) (by simp [ba,bb,bf]))
 by_cases h1:a.marks.getD X 0=b.marks.getD Y 0
 ·have e:=c0 1000 (by rw [hsc,if_pos ⟨h0,h1⟩])
  refine X1 1000 ?_
  simp (disch:=omega) only [v1,w1,hlen,Xh,XO,Qa,X4,↓Xk,wD,↓X2,wA,seval,wE]
  refine X0 cq rfl ?_
  simp (disch:=omega) only [v1,w1,w2,t1,hlen,eq_false h0,eq_true h1,Xh,XO,Qa,X4,↓Xk,wD,↓X2,wA,seval,wE]
  exact next (k+1) _ (by omega) (by omega) (Xz (m:=3) (Nat.zero_le _) rfl (by simp [Xi,I,e]) (by simp [Xj,Xp,Xh,hlen,I]) (by simp [XO,Qa,Xh,Xr,X4,I,sg]) (by simp [XA]) (by simp [XA,bL]) (by simp [ba,bb,bf]))
 ·have e:=c0 0 (by rw [hsc,if_neg (fun h=>h1 h.2)])
  rw [Int.add_zero] at e
  refine X1 1000 ?_
  simp (disch:=omega) only [v1,w1,hlen,Xh,XO,Qa,X4,↓Xk,wD,↓X2,wA,seval,wE]
  refine X0 cq rfl ?_
  simp (disch:=omega) only [v1,w1,w2,t1,hlen,eq_false h0,eq_false h1,Xh,XO,Qa,X4,↓Xk,wD,↓X2,wA,seval,wE]
  exact next (k+1) _ (by omega) (by omega) (Xz (m:=3) (Nat.zero_le _) rfl (by simp [Xi,I,e]) (by simp [Xj,Xp,Xh,hlen,I]) (by simp [XO,Qa,Xh,Xr,X4,I,sg]) (by simp [XA]) (by simp [XA,bL]) (by simp [ba,bb,bf]))
end
end Go.Ab.N
namespace Go.Ab.N
open Go Go.RowKit Go.Proofs
set_option maxRecDepth 10000
set_option maxHeartbeats 4000000
def p7 (a b c p:V2):Bool:=decide (0≤Jp a b p) && decide (0≤Jp b c p) && decide (0≤Jp c a p)
def dW (L:List V2) (a b c k:Nat):Bool:=decide (k=a) || decide (k=c) || decide (k=b) || !p7 (L.getD a v0) (L.getD b v0) (L.getD c v0) (L.getD k v0)
def jX (L:List V2) (R:List Nat) (p:Nat):Bool:=decide (0<RO L R p) && (List.range R.length).all fun j=>dW L (nr R (p+R.length - 1)) (R.getD p 0) (nr R (p+R.length+1)) (R.getD j 0)
theorem ep (a b c p:V2):p7 a b c p=true↔p6 a b c p:=by
 unfold p7 p6
 simp only [Bool.and_eq_true,decide_eq_true_eq,and_assoc]
theorem M6 (L:List V2) (a b c k:Nat):dW L a b c k=true↔E0 L a b c k:=by
 unfold dW E0
 rw [← ep]
 simp only [Bool.or_eq_true,decide_eq_true_eq,or_assoc,Bool.not_eq_true',Bool.not_eq_true]
open Classical in
theorem jY (L:List V2) (R:List Nat) (p:Nat):CX L R p=jX L R p:=by
 unfold CX jX
 rw [Bool.eq_iff_iff,decide_eq_true_eq,Bool.and_eq_true,decide_eq_true_eq,List.all_eq_true]
 refine and_congr_right fun _=>⟨fun h j hj=>(M6 _ _ _ _ _).2 (h j (List.mem_range.1 hj)),fun h j hj=>(M6 _ _ _ _ _).1 (h j (List.mem_range.2 hj))⟩
def Uf (L:List V2) (R:List Nat):Nat:=(List.range (R.length - 1)).findIdx (jX L R)
theorem d9 (L:List V2) (R:List Nat):G7 L R=Uf L R:=by
 unfold G7 Uf
 rw [show CX L R=jX L R from funext (jY L R)]
def dN (L:List V2) (R:List Nat):Nat:=(List.range R.length).findIdx fun p=>decide (RO L R p=0)
theorem dO (L:List V2) (R:List Nat):Ao L R=dN L R:=by
 rfl
def jH (L:List V2):Nat→List Nat→List Nat
 | 0,R=>R
 | f+1,R=>if 3<R.length∧dN L R<R.length then jH L f (R.eraseIdx (dN L R)) else R
theorem U7 (L:List V2):∀ (f:Nat) (R:List Nat),Bb L f R=jH L f R
 | 0,_=>rfl
 | f+1,R=>by
  unfold Bb jH
  rw [dO,U7 L f]
def jR (L:List V2):Nat→List Nat→List (Nat×Nat×Nat)
 | 0,R=>[(R.getD 0 0,R.getD 1 0,R.getD 2 0)]
 | f+1,R=>if 3<R.length then LG R (Uf L R) :: jR L f (jH L (R.length - 1) (R.eraseIdx (Uf L R))) else [(R.getD 0 0,R.getD 1 0,R.getD 2 0)]
theorem Ua (L:List V2):∀ (f:Nat) (R:List Nat),Ch L f R=jR L f R
 | 0,_=>rfl
 | f+1,R=>by
  unfold Ch jR DS
  rw [d9,U7,Ua L f]
def Nh (p:PV) (t c:V2):List (List V2):=((jR (Xy p.rim) p.rim.length (List.range p.rim.length)).map (gC (Xy p.rim))).map (AK t c)
theorem LV (p:PV) (t c:V2):Ks p t c=Nh p t c:=by
 unfold Ks Nh Kt DR
 rw [Ua,show (Xy p.rim).length=p.rim.length by simp [Xy]]
def rJ (n:V2) (A B:List V2) (e:Rat):Bool:=decide (e*C6 n≤Nt n A B)
def fz (A B:List V2) (e:Rat):Bool:=(CF A B).any fun d=>rJ d A B e
def nX (A B:List (List V2)) (e:Rat):Bool:=A.all fun x=>B.all fun y=>fz x y e
open Classical in
theorem fA (A B:List V2) (e:Rat):(BQ A B e).2=fz A B e:=by
 unfold BQ fz
 rw [Bool.eq_iff_iff,Ic,List.any_eq_true]
 unfold Rb rJ
 simp only [decide_eq_true_eq]
theorem Oj {α:Type} (l:List α) (d:α) (p:α→Bool):(∀ i,i<l.length→p (l.getD i d)=true)↔l.all p=true:=by
 rw [List.all_eq_true]
 constructor
 ·intro h x hx
  obtain ⟨i,hi,rfl⟩:=List.getElem_of_mem hx
  have:=h i hi
  rwa [List.getD_eq_getElem?_getD,List.getElem?_eq_getElem hi] at this
 ·intro h i hi
  rw [List.getD_eq_getElem?_getD,List.getElem?_eq_getElem hi]
  exact h _ (List.getElem_mem hi)
open Classical in
theorem iV (A B:List (List V2)) (e:Rat):Oe A B e=nX A B e:=by
 unfold Oe nX
 rw [Bool.eq_iff_iff,decide_eq_true_eq,← Oj A []]
 refine forall_congr' fun i=>forall_congr' fun _=>?_
 unfold Og
 rw [decide_eq_true_eq,← Oj B []]
 refine forall_congr' fun k=>forall_congr' fun _=>?_
 unfold ZW
 rw [fA]
def cw (a b:PV) (f:FV) (e:Rat):Bool:=nX (Nh a Z6 v0) (Nh b f.turn (Ir f)) (-e)
theorem Wd (a b:PV) (f:FV) (e:Rat):Ai a b f e=cw a b f e:=by
 unfold Ai cw
 rw [iV,LV,LV]
def rM (n m:Nat) (f:FV):Bool:=decide ((0≤f.EA∧f.EA<n)∧(0≤f.EB∧f.EB<m)∧1≤f.M∧f.M<n∧f.M<m)
theorem FG {n m:Nat} {f:FV}:rM n m f=true↔BF n m f:=decide_eq_true_iff
def qu (g:Nat→Rat):Nat→Rat
 | 0=>g 0
 | k+1=>if qu g k<g (k+1) then g (k+1) else qu g k
def qr (g:Nat→Rat):Nat→Rat
 | 0=>g 0
 | k+1=>if g (k+1)<qr g k then g (k+1) else qr g k
theorem Ta (g:Nat→Rat):∀ k,l7 g k=qu g k
 | 0=>rfl
 | k+1=>by
  unfold l7 qu Uy
  rw [Ta g k]
theorem T9 (g:Nat→Rat):∀ k,kY g k=qr g k
 | 0=>rfl
 | k+1=>by
  unfold kY qr Uw
  rw [T9 g k]
def rW (a b:List (Int×Int)) (f:FV) (k:Nat):V2:=⟨qu (fun j=>(KX a b f j).x) k,qu (fun j=>(KX a b f j).y) k⟩
def rV (a b:List (Int×Int)) (f:FV) (k:Nat):V2:=⟨qr (fun j=>(KX a b f j).x) k,qr (fun j=>(KX a b f j).y) k⟩
theorem pj (a b:List (Int×Int)) (f:FV) (k:Nat):ZT a b f k=rW a b f k:=by unfold ZT rW; rw [Ta,Ta]
theorem oX (a b:List (Int×Int)) (f:FV) (k:Nat):ZR a b f k=rV a b f k:=by unfold ZR rV; rw [T9,T9]
def TU (a b:List (Int×Int)) (f:FV) (c:V2):Bool :=
 rM a.length b.length f && decide (f.turn.x*f.turn.x+f.turn.y*f.turn.y=1) && decide ((rW a b f f.M.toNat).x=c.x) && decide ((rW a b f f.M.toNat).y=c.y) && decide ((rV a b f f.M.toNat).x=c.x) && decide ((rV a b f f.M.toNat).y=c.y)
theorem LM {a b:List (Int×Int)} {f:FV} {c:V2} (h:TU a b f c=true):XD a b f 0=(c,c,true):=by
 unfold TU at h
 simp only [Bool.and_eq_true,decide_eq_true_eq] at h
 obtain ⟨⟨⟨⟨⟨h1,h2⟩,h3⟩,h4⟩,h5⟩,h6⟩:=h
 have e1:ZT a b f f.M.toNat=c:=by rw [pj,V2.ext']; exact ⟨h3,h4⟩
 have e2:ZR a b f f.M.toNat=c:=by rw [oX,V2.ext']; exact ⟨h5,h6⟩
 unfold XD
 rw [if_pos ⟨FG.1 h1,h2⟩]
 simp only [e1,e2]
 have z1:c.sub ⟨0,0⟩=c:=by unfold V2.sub; rw [V2.ext']; exact ⟨by simp only; grind,by simp only; grind⟩
 have z2:c.add ⟨0,0⟩=c:=by unfold V2.add; rw [V2.ext']; exact ⟨by simp only; grind,by simp only; grind⟩
 rw [z1,z2,if_neg (fun h=>by rcases h with h | h <;> exact absurd h (Rat.lt_irrefl))]
theorem fl (g:Nat→Rat):∀ n k,k≤n→g k≤l7 g n
 | 0,k,h=>by
  obtain rfl:k=0:=by omega
  exact Rat.le_refl
 | n+1,k,h=>by
  unfold l7 Uy
  by_cases hk:k=n+1
  ·subst hk
   split
   ·exact Rat.le_refl
   ·rename_i h; exact Rat.not_lt.1 h
  ·have ih:=fl g n k (by omega)
   split
   ·rename_i h; exact Rat.le_trans ih (Rat.le_of_lt h)
   ·exact ih
theorem f9 (g:Nat→Rat):∀ n k,k≤n→kY g n≤g k
 | 0,k,h=>by
  obtain rfl:k=0:=by omega
  exact Rat.le_refl
 | n+1,k,h=>by
  unfold kY Uw
  by_cases hk:k=n+1
  ·subst hk
   split
   ·exact Rat.le_refl
   ·rename_i h; exact Rat.not_lt.1 h
  ·have ih:=f9 g n k (by omega)
   split
   ·rename_i h; exact Rat.le_trans (Rat.le_of_lt h) ih
   ·exact ih
theorem VJ {a b:List (Int×Int)} {f:FV} (h:(XD a b f 0).2.2=true) (i j:Nat) (hi:i≤f.M.toNat) (hj:j≤f.M.toNat):KX a b f i=KX a b f j:=by
 obtain ⟨_,_,_,h1,h2⟩:=aW h
 have z:∀ x y:Rat,x - 0≤y+0→x≤y:=fun x y h=>by grind
 have h1:=z _ _ h1
 have h2:=z _ _ h2
 have t:∀ (g:Nat→Rat),l7 g f.M.toNat≤kY g f.M.toNat→g i=g j:=fun g hg=>by
  have a1:=fl g _ i hi; have a2:=fl g _ j hj; have a3:=f9 g _ i hi; have a4:=f9 g _ j hj
  exact Rat.le_antisymm (Rat.le_trans a1 (Rat.le_trans hg a4)) (Rat.le_trans a2 (Rat.le_trans hg a3))
 rw [V2.ext']
 exact ⟨t (fun k=>(KX a b f k).x) h1,t (fun k=>(KX a b f k).y) h2⟩
def CM:List (Int×Int):=[(0,0),(2,0),(3,2),(2,4),(0,4)]
def CN:List (Int×Int):=[(0,0),(2,0),(1,2),(2,4),(0,4)]
def exA:PV:=BC CM
def exB:PV:=BC CN
def exT:V2:=⟨-1,0⟩
def ke:FV:=⟨0,1,1,2,2,exT,v0,v0⟩
def Lw (eb m:Int):FV:=⟨0,1,1,eb,m,exT,⟨4,4⟩,⟨4,4⟩⟩
theorem Mw (R:List (Int×Int)) (h:Dj (Xy R)=true) (hn:∀ c∈R,(-65536≤c.1∧c.1≤65536)∧(-65536≤c.2∧c.2≤65536)) (hl:R.length<1000000):GP (BC R) 0 :=
 ⟨⟨hl,by simp [BC],by simp [BC],hn⟩,Dk _ h,rfl,by have:=ZA; omega⟩
theorem exA_gp:GP exA 0:=Mw CM (by decide +kernel) (by decide) (by decide)
theorem exB_gp:GP exB 0:=Mw CN (by decide +kernel) (by decide) (by decide)
theorem aZ {a b t:V2} (h:XR a a≠0∧XR a a=XR b b∧XR a b / XR a a=t.x∧Q2 a b / XR a a=t.y):QF a b=(t,0):=by
 obtain ⟨h1,h2,h3,h4⟩:=h
 unfold QF
 rw [if_neg (by rw [← h2]; simp [h1]),if_pos h2]
 rw [Prod.mk.injEq,V2.ext']
 exact ⟨⟨h3,h4⟩,rfl⟩
theorem LP {a b:List (Int×Int)} {i j:Int} {t:V2} (h:Nu a.length b.length i j) (h2:XR (Z2 (Zq b j.toNat)) (Z2 (Zq b j.toNat))≠0∧XR (Z2 (Zq b j.toNat)) (Z2 (Zq b j.toNat))=XR (Zq a i.toNat) (Zq a i.toNat) ∧
  XR (Z2 (Zq b j.toNat)) (Zq a i.toNat) / XR (Z2 (Zq b j.toNat)) (Z2 (Zq b j.toNat))=t.x∧Q2 (Z2 (Zq b j.toNat)) (Zq a i.toNat) / XR (Z2 (Zq b j.toNat)) (Z2 (Zq b j.toNat))=t.y):XU a b i j=(t,true):=by
 unfold XU
 rw [if_pos h,aZ h2]; rfl
theorem LN {a b:List (Int×Int)} {i j:Int} (h2:XR (Z2 (Zq b j.toNat)) (Z2 (Zq b j.toNat))≠XR (Zq a i.toNat) (Zq a i.toNat)):XU a b i j=(v0,false):=by
 unfold XU
 split
 ·obtain ⟨e1,e2⟩:=EU _ _ h2
  rw [e1,decide_eq_false e2]
 ·rfl
theorem SR:XU CM CN 1 2=(exT,true):=LP (by unfold Nu; decide) (by decide +kernel)
theorem oU:XU CM CN 0 2=(v0,false):=LN (by decide +kernel)
theorem dF:XD CM CN ke 0=(⟨4,4⟩,⟨4,4⟩,true):=LM (by decide +kernel)
theorem Wq (m:Int) (h:m=1∨m=2):XD CM CN (Lw 2 m) 0=(⟨4,4⟩,⟨4,4⟩,true):=by
 rcases h with rfl | rfl <;> exact LM (by decide +kernel)
theorem fK {a b:PV} {f:FV} (h:((List.range f.M.toNat).all fun k=>!bJ a b f k)=true):H8 a b f:=fun k hk=>by
 have:=List.all_eq_true.1 h k (List.mem_range.2 hk)
 simpa using this
theorem I9 (m:Int) (h:m=1∨m=2):AB exA exB (Lw 2 m) 0=0:=by
 rw [Hi]
 refine ⟨?_,?_,⟨0,?_,?_,?_⟩,?_,?_⟩
 ·rcases h with rfl | rfl <;> exact FG.1 (by decide)
 ·rcases h with rfl | rfl <;> exact fK (by decide +kernel)
 ·rcases h with rfl | rfl <;> decide
 ·rcases h with rfl | rfl <;> exact congrArg (·.2) SR
 ·rcases h with rfl | rfl <;> exact congrArg (·.1) SR
 ·have:=Wq m h
  show (XD CM CN (Lw 2 m) 0).2.2=true∧(XD CM CN (Lw 2 m) 0).1=_∧(XD CM CN (Lw 2 m) 0).2.1=_
  rw [this]; exact ⟨rfl,rfl,rfl⟩
 ·rw [Wd]
  rcases h with rfl | rfl <;> decide +kernel
theorem dI:AB exA exB (Lw 3 2) 0=21:=by
 unfold AB
 rw [if_pos (FG.1 (by decide)),if_pos (fK (by decide +kernel)),if_neg]
 rintro ⟨k,hk,h1,h2⟩
 have hk:k<2:=hk
 have e0:XU CM CN 1 3=(v0,false):=LN (by decide +kernel)
 have e1:XU CM CN 2 2=(⟨-3 / 5,-4 / 5⟩,true):=LP (by unfold Nu; decide) (by decide +kernel)
 match k,hk with
 | 0,_ =>
  have:(XU CM CN 1 3).2=true:=h1
  rw [e0] at this; cases this
 | 1,_ =>
  have:(XU CM CN 2 2).1=exT:=h2
  rw [e1,V2.ext'] at this
  exact absurd this.1 (by decide +kernel)
theorem dH:Gp exA exB (Lw 2 2)=10:=by
 unfold Gp
 rw [if_pos (FG.1 (by decide))]
 decide +kernel
open Classical in
theorem dG:Lw 2 2∈OU exA exB 0:=by
 refine List.mem_filter.2 ⟨Wb (I9 2 (.inr rfl)) rfl rfl (by decide) (by decide),?_⟩
 rw [Bool.not_eq_true',Bool.eq_false_iff]
 intro h
 unfold O0 at h
 obtain ⟨g,hg,hp⟩:=List.any_eq_true.1 h
 have hp:Mr 5 5 (Lw 2 2) g:=of_decide_eq_true hp
 have hc:=Gx hg (by decide) (by decide)
 obtain ⟨_,_,_,⟨ha,_⟩,_⟩:=(Hi exA exB g 0).1 hc
 obtain ⟨_,_,q1,q2,q3,q4,q5⟩:=Sg hg (by decide) (by decide)
 obtain ⟨A,B,EA,EB,M,t,lo,hi⟩:=g
 have q1:0≤EA∧EA<5:=q1
 have q2:0≤EB∧EB<5:=q2
 have q4:M<5:=q4
 obtain ⟨p1,p2,p3,p4⟩:=hp
 have p1:2<M:=p1
 have p2:(1 - EA) % 5+2≤M:=p2
 have p3:(EB - (1 - EA) % 5) % 5=2:=p3
 have p4:exT=t:=p4
 subst p4
 have key:∀ (i:Nat),i≤M.toNat→KX CM CN ⟨0,0,EA,EB,0,exT,v0,v0⟩ i=KX CM CN ⟨0,0,EA,EB,0,exT,v0,v0⟩ 0:=fun i h=>VJ ha i 0 h (by omega)
 have k3:=key 3 (by omega)
 have k4:=fun h=>key 4 h
 have c:(EA=1∧EB=2)∨(EA=0∧EB=3)∨(EA=4∧EB=4∧M=4):=by omega
 rcases c with ⟨rfl,rfl⟩ | ⟨rfl,rfl⟩ | ⟨rfl,rfl,rfl⟩
 ·exact absurd k3 (by rw [V2.ext']; decide +kernel)
 ·exact absurd k3 (by rw [V2.ext']; decide +kernel)
 ·exact absurd (k4 (by decide)) (by rw [V2.ext']; decide +kernel)
end Go.Ab.N
namespace Go.Ab.N
open Go Go.RowKit Go.Proofs
noncomputable section
set_option maxRecDepth 10000
set_option maxHeartbeats 4000000
open Classical
theorem ln (p:Int×Int):(K1 p).length=2:=rfl
theorem FS (R:List (Int×Int)) (n m:Nat) (t:Bool) (l:List AV) (hl:l=R.flatMap K1) (hn:n=R.length) (hm:m=R.length*2) (h0:0<R.length):Weak (.sl n m (Xo l) t) (CO R):=by
 subst hn hm hl
 rw [Xh]
 exact Z9 (by rfl) (Nat.le_refl _) fun j hj=>by rw [Gb K1 2 (0,0) (by omega) ln R j hj]; exact Weak.rfl' _
theorem NY (t:Bool):WeakL [.bool false,.sl 0 0 (fun _=>.any) t,.bool false,.sl 0 0 (fun _=>.any) t] (qC 0) :=
 have h1:X9 (0:Rat).num.natAbs=[]:=by rw [Rat.zero_num]; simp [XX]
 have h2:X9 (qd (0:Rat))=[]:=Dh rfl
 ⟨Weak.rfl' _,Qz h1,Weak.rfl' _,Qz h2,trivial⟩
def Pp (W:List FV) (f:FV) (j:Nat):Bool:=(W.take j).any fun g=>decide (g=f)
theorem WQ (W:List FV) (f:FV) (j:Nat) (h:j<W.length):Pp W f (j+1)=(Pp W f j || decide (W.getD j Cb=f)):=by
 unfold Pp
 rw [List.take_succ_eq_append_getElem h,List.any_append,List.getD_eq_getElem?_getD,List.getElem?_eq_getElem h]
 simp
theorem eL {W:List FV} {f:FV} (h:f∈W):Pp W f W.length=true:=by
 unfold Pp
 rw [List.take_length,List.any_eq_true]
 exact ⟨f,h,by simp⟩
theorem gY (t:Bool):WeakL [.bool (decide (exT.x.num<0)),X6 (X9 exT.x.num.natAbs),.bool false,X6 (X9 (qd exT.x)),.bool false,.sl 0 0 (fun _=>.any) t,.bool false,.sl 0 0 (fun _=>.any) t] (vC exT):=by
 obtain ⟨u1,u2,u3,u4,_⟩:=NY t
 exact ⟨Weak.rfl' _,Weak.rfl' _,Weak.rfl' _,Weak.rfl' _,u1,u2,u3,u4,trivial⟩
theorem gW (t:Bool):WeakL [I 0,I 1,I 1,I 2,I 2,.bool (decide (exT.x.num<0)),X6 (X9 exT.x.num.natAbs),.bool false,X6 (X9 (qd exT.x)),.bool false,.sl 0 0 (fun _=>.any) t,.bool false,.sl 0 0 (fun _=>.any) t,
  .bool false,.sl 0 0 (fun _=>.any) t,.bool false,.sl 0 0 (fun _=>.any) t,.bool false,.sl 0 0 (fun _=>.any) t,.bool false,.sl 0 0 (fun _=>.any) t,.bool false,.sl 0 0 (fun _=>.any) t,.bool false,.sl 0 0 (fun _=>.any) t,.bool false,.sl 0 0 (fun _=>.any) t,.bool false,.sl 0 0 (fun _=>.any) t] (Qa ke):=by
 obtain ⟨u1,u2,u3,u4,_⟩:=NY t
 obtain ⟨w1,w2,w3,w4,w5,w6,w7,w8,_⟩:=Ca t
 exact ⟨Weak.rfl' _,Weak.rfl' _,Weak.rfl' _,Weak.rfl' _,Weak.rfl' _,Weak.rfl' _,Weak.rfl' _,Weak.rfl' _,Weak.rfl' _,u1,u2,u3,u4,w1,w2,w3,w4,w5,w6,w7,w8,w1,w2,w3,w4,w5,w6,w7,w8,trivial⟩
theorem gX (t:Bool):WeakL ([I 0,I 1,I 1,I 2,I 2,.bool (decide (exT.x.num<0)),X6 (X9 exT.x.num.natAbs),.bool false,X6 (X9 (qd exT.x)),.bool false,.sl 0 0 (fun _=>.any) t,.bool false,.sl 0 0 (fun _=>.any) t] ++ (vC ⟨4,4⟩ ++ vC ⟨4,4⟩)) (Qa (Lw 2 2)):=by
 obtain ⟨u1,u2,u3,u4,_⟩:=NY t
 exact ⟨Weak.rfl' _,Weak.rfl' _,Weak.rfl' _,Weak.rfl' _,Weak.rfl' _,Weak.rfl' _,Weak.rfl' _,Weak.rfl' _,Weak.rfl' _,u1,u2,u3,u4,Weak.rfl' _,Weak.rfl' _,Weak.rfl' _,Weak.rfl' _,Weak.rfl' _,Weak.rfl' _,Weak.rfl' _,Weak.rfl' _,Weak.rfl' _,Weak.rfl' _,Weak.rfl' _,Weak.rfl' _,Weak.rfl' _,Weak.rfl' _,Weak.rfl' _,Weak.rfl' _,trivial⟩
theorem oT:(⟨((4:Int):Rat),((4:Int):Rat)⟩:V2)=⟨4,4⟩:=by rw [V2.ext']; exact ⟨by decide +kernel,by decide +kernel⟩
theorem Hm (eb m:Int):(Lw eb m).fine:=⟨by show vb exT≤60; decide +kernel,by show vb ⟨4,4⟩≤300; decide +kernel,by show vb ⟨4,4⟩≤300; decide +kernel⟩
theorem T1:Fn Tryz.prog 49 [] (.bool true):=by
 have cA:=Ix CM (by decide)
 have cB:=Ix CN (by decide)
 rw [show BC CM=exA from rfl] at cA
 rw [show BC CN=exB from rfl] at cB
 have a1:=AM exA exB 1 2 (by decide) (by decide) exA_gp.even.near exB_gp.even.near
 rw [show XU exA.rim exB.rim 1 2=(exT,true) from SR] at a1
 have a2:=AM exA exB 0 2 (by decide) (by decide) exA_gp.even.near exB_gp.even.near
 rw [show XU exA.rim exB.rim 0 2=(v0,false) from oU] at a2
 have o1:=QY (-1) 1 ⟨by omega,by omega⟩ ⟨by omega,by omega⟩
 have q0:=ZA
 have g1:=ES exA exB ke exA_gp.even exB_gp.even (by show vb exT≤1000; decide +kernel) exA_gp.tol exB_gp.tol (by omega) (by omega)
 rw [show XD exA.rim exB.rim ke (0+0)=(⟨4,4⟩,⟨4,4⟩,true) from by rw [show (0:Rat)+0=0 by decide +kernel]; exact dF] at g1
 have hT:vb exT≤60:=by decide +kernel
 have s1:=AW exT exT (by unfold vm; omega) (by unfold vm; omega)
 rw [decide_eq_true rfl] at s1
 have of1:=Ax 4 4 ⟨by omega,by omega⟩ ⟨by omega,by omega⟩
 rw [oT] at of1
 have hc0:vb ⟨4,4⟩≤60:=by decide +kernel
 have hc:vb ⟨4,4⟩≤vm:=by unfold vm; omega
 have s2:=AU ⟨4,4⟩ ⟨4,4⟩ hc hc
 rw [decide_eq_true rfl] at s2
 have z0:(0:Rat)+0=0:=by decide +kernel
 have cf:=dJ exA exB exA_gp exB_gp
 have hF:=dM exA_gp exB_gp
 rw [z0] at cf hF
 have hfd:=eL dG
 generalize OU exA exB 0=W at *
 have k1:=Ga exA exB (Lw 2 2) exA_gp exB_gp (Hm 2 2)
 have k2:=Ga exA exB (Lw 2 1) exA_gp exB_gp (Hm 2 1)
 have k3:=Ga exA exB (Lw 3 2) exA_gp exB_gp (Hm 3 2)
 rw [z0] at k1 k2 k3
 rw [I9 2 (.inr rfl)] at k1
 rw [I9 1 (.inl rfl)] at k2
 rw [dI] at k3
 have k4:=Wz exA exB (Lw 2 2) exA_gp.even exB_gp.even
 rw [dH] at k4
 have lW:=hF.len
 have fW:=hF.fine
 clear hF
 rw [show Rat.divInt (-1) 1=exT.x by decide +kernel] at o1
 generalize hEA:exA=pa at *
 generalize hEB:exB=pb at *
 refine Fn.intro (fn:=Tryz.f49) Tryz.call49 Tryz.func49 rfl mixed 16 [] [7,8012,80000003,80000008,80000009,16] [] (by kernel_rfl) (Nat.le_of_ble_eq_true rfl) (by simp) (X1 1000 ?_)
 simp (disch:=omega) only [AS.start,↓Xk,wD,↓X2,wA,seval,wE]
 refine XW cA ⟨FS CM _ _ _ _ rfl rfl rfl (by decide),trivial⟩ ?_
 simp (disch:=omega) only [Jg,XO,↓Xk,wD,↓X2,wA,seval,wE]
 refine XW cB ⟨FS CN _ _ _ _ rfl rfl rfl (by decide),trivial⟩ ?_
 simp (disch:=omega) only [Jg,XO,↓Xk,wD,↓X2,wA,seval,wE]
 refine X0 a1 rfl ?_
 simp (disch:=omega) only [Jg,XO,↓Xk,wD,↓X2,wA,seval,wE]
 refine X0 a2 rfl ?_
 simp (disch:=omega) only [Jg,XO,↓Xk,wD,↓X2,wA,seval,wE]
 refine X0 o1 rfl ?_
 simp (disch:=omega) only [Jg,XO,↓Xk,wD,↓X2,wA,seval,wE]
 refine XW g1 ⟨Weak.rfl' _,Weak.rfl' _,XT (gW false),trivial⟩ ?_
 simp (disch:=omega) only [↓Xk,wD,↓X2,wA,seval,wE]
 refine XW s1 ⟨Weak.rfl' _,XT (gY false),trivial⟩ ?_
 simp (disch:=omega) only [↓Xk,wD,↓X2,wA,seval,wE]
 refine X0 of1 rfl ?_
 simp (disch:=omega) only [↓Xk,wD,↓X2,wA,seval,wE]
 refine X0 s2 rfl ?_
 simp (disch:=omega) only [↓Xk,wD,↓X2,wA,seval,wE]
 refine X0 s2 rfl ?_
 simp (disch:=omega) only [Jg,XO,↓Xk,wD,↓X2,wA,seval,wE]
 refine X0 cf rfl ?_
 simp (disch:=omega) only [↓Xk,wD,↓X2,wA,seval,wE]
 refine Xf (fun i:Nat=>⟨16,[],[.any,.ref 0 0 0,.ref 1 0 0,.any,.any,.any,.any,.ref 4 0 0,.any,.any,.any,Nr W,.bool (Pp W (Lw 2 2) i),I i,.any,.any],[],[.con 0 25 (Xo (XO pa)),.con 0 25 (Xo (XO pb)),.con 0 8 (Xo (vC exT)),.row 0 8 (Xo (vC v0)),.con 0 29 (Xo (Qa (Lw 2 2))),.con 0 8 (Xo (vC ⟨4,4⟩)),.con 0 8 (Xo (vC ⟨4,4⟩))]⟩) (fun i=>i≤W.length) (fun i=>W.length - i) 0 (by omega)
  (Sub.trans (QL 0 rfl) (Sub.trans (QL 1 rfl) (Sub.trans (L5 4 _ rfl rfl (gX false)) (Sub.trans (QL 4 rfl) (Xb rfl (by simp [Xi,Qg,I,Pp]) (by simp [Xj]) (by simp [XO,Qa,vC,Xh,Xr,X4,I,sg])))))) ?_
 intro i hi next
 by_cases hi2:i<W.length
 ·have x1:=fF W i
  have x2:=rU W i
  have hm:=fW _ (JI (d:=Cb) hi2)
  have hs:=WQ W (Lw 2 2) i hi2
  generalize W.getD i Cb=f at *
  have cs:=Tm f (Lw 2 2) hm (Hm 2 2)
  generalize decide (f=Lw 2 2)=D at *
  generalize Pp W (Lw 2 2) i=B0 at *
  cases B0
  ·refine X1 1000 ?_
   simp (disch:=omega) only [x1,x2,Qg,Qa,List.cons_append,List.nil_append,↓Xk,wD,↓X2,wA,seval,wE]
   refine X0 cs rfl ?_
   simp (disch:=omega) only [Qg,↓Xk,wD,↓X2,wA,seval,wE]
   exact next (i+1) _ (by omega) (by omega) (Xb rfl (by simp [Xi,Qg,I,hs]) (by simp [Xj]) (by simp [XO,Qa,vC,Xh,Xr,X4,I,sg]))
  ·refine X1 1000 ?_
   simp (disch:=omega) only [x1,x2,Qg,Qa,List.cons_append,List.nil_append,↓Xk,wD,↓X2,wA,seval,wE]
   exact next (i+1) _ (by omega) (by omega) (Xb rfl (by simp [Xi,Qg,I,hs]) (by simp [Xj]) (by simp [XO,Qa,vC,Xh,Xr,X4,I,sg]))
 obtain rfl:i=W.length:=by omega
 refine X1 1000 ?_
 rw [hfd]
 simp (disch:=omega) only [Qg,XO,Qa,List.cons_append,List.nil_append,↓Xk,wD,↓X2,wA,seval,wE]
 refine X0 k1 rfl ?_
 simp (disch:=omega) only [XO,Qa,List.cons_append,List.nil_append,↓Xk,wD,↓X2,wA,seval,wE]
 refine X0 k2 rfl ?_
 simp (disch:=omega) only [XO,Qa,List.cons_append,List.nil_append,↓Xk,wD,↓X2,wA,seval,wE]
 refine X0 k3 rfl ?_
 simp (disch:=omega) only [XO,Qa,List.cons_append,List.nil_append,↓Xk,wD,↓X2,wA,seval,wE]
 refine X0 k4 rfl ?_
 simp (disch:=omega) only [↓Xk,wD,↓X2,wA,seval,wE]
 exact Xt rfl rfl (X3 _) rfl
theorem Yp {a b:V2} (h:(QF a b).2=0):Ha (QF a b).1 a=b:=by
 unfold QF at *
 by_cases h0:XR a a=0∨XR b b=0
 ·rw [if_pos h0] at h; exact absurd h (by decide)
 rw [if_neg h0] at h ⊢
 by_cases h1:XR a a=XR b b
 rotate_left
 ·rw [if_neg h1] at h; exact absurd h (by decide)
 rw [if_pos h1]
 have hz:XR a a≠0:=fun e=>h0 (.inl e)
 have e1:∀ x y z:Rat,z≠0→x / z*y=x*y / z:=fun x y z hz=>by grind
 unfold Ha
 simp only [V2.ext']
 have key:∀ p q r:Rat,r≠0→p=q*r→p / r=q:=fun p q r hr hp=>by grind
 refine ⟨?_,?_⟩
 ·rw [e1 _ _ _ hz,e1 _ _ _ hz]
  have:XR a b*a.x / XR a a - Q2 a b*a.y / XR a a=(XR a b*a.x - Q2 a b*a.y) / XR a a:=by grind
  rw [this]
  exact key _ _ _ hz (by unfold XR Q2; grind)
 ·rw [e1 _ _ _ hz,e1 _ _ _ hz]
  have:Q2 a b*a.x / XR a a+XR a b*a.y / XR a a=(Q2 a b*a.x+XR a b*a.y) / XR a a:=by grind
  rw [this]
  exact key _ _ _ hz (by unfold XR Q2; grind)
theorem Om {a b:List (Int×Int)} {i j:Int} (h:(XU a b i j).2=true):Nu a.length b.length i j∧Ha (XU a b i j).1 (v0.sub (Zq b j.toNat))=Zq a i.toNat:=by
 unfold XU at *
 by_cases hr:Nu a.length b.length i j
 ·rw [if_pos hr] at h ⊢
  refine ⟨hr,?_⟩
  rw [gG]
  exact Yp (of_decide_eq_true h)
 ·rw [if_neg hr] at h; cases h
theorem Up (l:List Int) (i:Nat):Q7 I 0 l i=I (l.getD i 0):=by rw [JX]
theorem MR:∀ {l m:List AV} (r:List AV),WeakL l m→WeakL (l ++ r) (m ++ r)
 | [],[],r,_=>XY r
 | _ :: _,[],_,h=>h.elim
 | [],_ :: _,_,h=>h.elim
 | _ :: _,_ :: _,r,h=>⟨h.1,MR r h.2⟩
theorem P0 (f:FV):(Qa f).length=29:=rfl
theorem OY:∀ L:List FV,(L.flatMap Qa).length=L.length*29
 | []=>rfl
 | f :: L=>by rw [List.flatMap_cons,List.length_append,OY L,P0,List.length_cons]; omega
theorem YS {l:List AV} {L:List FV} {n m:Nat} {t:Bool} (h:WeakL l (L.flatMap Qa)) (hn:n=L.length) (hm:m=L.length*29) (h0:0<L.length):Weak (.sl n m (Xo l) t) (Nr L):=by
 subst hn hm
 rw [Qg]
 refine Z9 (by rfl) (Nat.le_refl _) fun j hj=>?_
 have hj:j<L.length*29:=hj
 rw [← Gb Qa 29 Cb (by omega) P0 L j hj]
 exact fun c v hv=>(WeakL.spec h).2 j (by rw [(WeakL.spec (c:=c) h).1,OY]; exact hj) v hv
theorem N9 (l m:List Int) (i j how b:Int) (hl:Bg l) (hl2:l.length<9223372036854775808) (hm:Bg m) (hm2:m.length<9223372036854775808) (hi:Kg i) (hj:Kg j) (hh:Kg how) (hb:Kg b) :
  Fn Tryz.prog 6 [X6 l,X6 m,I i,I j,I how,I b] (.bool true):=by
 obtain ⟨A,B,ta,tb,cP,gA,gB,sA,sB⟩:=Yc l m hl hl2 hm hm2
 have pA:=HB gA; have pB:=HB gB
 have ca:=Kc i A.rim.length hi (by omega)
 have cb:=Kc j B.rim.length hj (by omega)
 have c4:=Kc b 4 hb (by omega)
 have b4:=JQ b 4 (by omega)
 have w4:IntKind.i64.wrap (1+QB b 4)=1+QB b 4:=by rw [IntKind.wrap_i64]; omega
 generalize QB i A.rim.length=n0 at *
 generalize QB j B.rim.length=k0 at *
 generalize QB b 4=m4 at *
 have bA:XQ 2 (.con 0 25 (Xo (XO A)))=True:=eq_true (fun j _=>X8 (Xg (XG A) _))
 have bB:XQ 2 (.con 0 25 (Xo (XO B)))=True:=eq_true (fun j _=>X8 (Xg (XG B) _))
 have hN:∀ (x y:Int) (t:Bool),Weak (.sl 2 2 (Xo [I x,I y]) t) (X6 [x,y]):=fun x y t=>by
  rw [X4]
  refine Z9 rfl (Nat.le_refl _) fun k hk=>?_
  match k,hk with
  | 0,_=>exact Weak.rfl' _
  | 1,_=>exact Weak.rfl' _
  | k+2,h=>exact absurd h (by show ¬ k+2<2; omega)
 refine Fq Tryz.call6 Tryz.func6 33 [] [7,8,11,120000018,13,14,150000022,15,160000024,19,20] [] (by simp [X5,Xa]) (X1 1000 ?_)
 simp (disch:=omega) only [AS.start,↓Xk,wD,↓X2,wA,seval,wE]
 refine X0 cP rfl ?_
 simp (disch:=omega) only [Jg,XO,↓Xk,wD,↓X2,wA,seval,wE]
 refine X0 ca rfl ?_
 simp (disch:=omega) only [Jg,XO,↓Xk,wD,↓X2,wA,seval,wE]
 refine X0 cb rfl ?_
 simp (disch:=omega) only [↓Xk,wD,↓X2,wA,seval,wE]
 obtain ⟨N,hNe⟩:∃ N,N=[n0,i]:=⟨_,rfl⟩
 obtain ⟨K,hKe⟩:∃ K,K=[k0,j]:=⟨_,rfl⟩
 have wN:=hN n0 i
 have wK:=hN k0 j
 rw [← hNe] at wN
 rw [← hKe] at wK
 have lN:N.length=2:=by rw [hNe]; rfl
 have lK:K.length=2:=by rw [hKe]; rfl
 have eN:N.getD 0 0=n0:=by rw [hNe]; rfl
 have eK:K.getD 0 0=k0:=by rw [hKe]; rfl
 clear hNe hKe hN
 have bN:Kl 2 (X6 N)=True:=eq_true (X8 (X5 N))
 have bK:Kl 2 (X6 K)=True:=eq_true (X8 (X5 K))
 refine Xf (fun x:Nat=>⟨33,[],[.any,.any,.any,.any,I how,I b,.any,.any,.any,.any,.any,.any,.any,.ref 0 0 0,.ref 1 0 0,X6 N,X6 K,I x,.any,.any,.any,.any,.any,.any,.any,.any,.any,.any,.any,.any,.any,.any,.any],[],[.con 0 25 (Xo (XO A)),.con 0 25 (Xo (XO B))]⟩) (fun x=>x≤2) (fun x=>2 - x) 0 (by omega)
  (Sub.trans (QL 0 rfl) (Sub.trans (QL 1 rfl) (Sub.trans (Zf 15 (X6 N) (by show 15<33; omega) (Kr (wN _))) (Sub.trans (Zf 16 (X6 K) (by show 16<33; omega) (Kr (wK _))) (Xb rfl (by simp [AS.put,Xi,I]) (by simp [AS.put,Xj]) (by simp [XO,Xh,Xr,X4,I,sg])))))) ?_
 intro x hx next
 by_cases hx2:x<2
 ·have x1:=Up N x
  have y1:=Up K x
  have c1:=AM A B (N.getD x 0) (K.getD x 0) gA.even.rim gB.even.rim gA.even.near gB.even.near
  have c2:=IC A B (N.getD x 0) (K.getD x 0) gA.even.rim gB.even.rim gA.even.near gB.even.near
  have ht:=Aq gA.even.near gB.even.near (N.getD x 0) (K.getD x 0)
  have hr:=fun h=>Om (a:=A.rim) (b:=B.rim) (i:=N.getD x 0) (j:=K.getD x 0) h
  have qe:=fun k=>Zh gA.even.near k
  have qf:=fun k=>Zh gB.even.near k
  generalize N.getD x 0=n at *
  generalize K.getD x 0=k at *
  generalize XU A.rim B.rim n k=T at *
  obtain ⟨t,ok⟩:=T
  simp only at c1 c2 ht hr
  have c3:=AW t t (by unfold vm; omega) (by unfold vm; omega)
  rw [decide_eq_true rfl] at c3
  have bne:(ok != ok)=false:=by simp
  cases ok
  ·refine X1 1000 ?_
   simp (disch:=omega) only [x1,y1,lN,lK,X4,↓Xk,wD,↓X2,wA,seval,wE]
   refine X0 c1 rfl ?_
   simp (disch:=omega) only [x1,y1,lN,lK,X4,↓Xk,wD,↓X2,wA,seval,wE]
   refine X0 c2 rfl ?_
   simp (disch:=omega) only [↓Xk,wD,↓X2,wA,seval,wE]
   refine X0 c3 rfl ?_
   simp (disch:=omega) only [↓Xk,wD,↓X2,wA,seval,wE]
   exact next (x+1) _ (by omega) (by omega) (Xz (m:=2) (Nat.zero_le _) rfl (by simp [Xi,X4,lN,lK,I]) (by simp [Xj]) (by simp [XO,Xh,Xr,X4,I,sg]) (by simp [XA,bN,bK]) (by simp [XA]) (by simp [bA,bB]))
  ·obtain ⟨⟨⟨r1,r2⟩,r3,r4⟩,hrot⟩:=hr rfl
   obtain ⟨n,rfl⟩:=Int.eq_ofNat_of_zero_le r1
   obtain ⟨k,rfl⟩:=Int.eq_ofNat_of_zero_le r3
   have c5:=Fl B k (by omega) gB.even.rim gB.even.near
   have c6:=Fl A n (by omega) gA.even.rim gA.even.near
   rw [show (n:Int).toNat=n by omega,show (k:Int).toNat=k by omega] at hrot
   have q1:=qe n; have q2:=qf k
   have z0:=Dv
   have c7:=Bm v0 (Zq B.rim k) (by unfold rm; omega) (by unfold rm; omega)
   have q3:=K9 v0 (Zq B.rim k)
   have c8:=ED t (v0.sub (Zq B.rim k)) (by unfold vm; omega) (by unfold vm; omega)
   rw [hrot] at c8
   have c9:=NC (Zq A.rim n) (Zq A.rim n) (by unfold vm; omega) (by unfold vm; omega)
   rw [decide_eq_true rfl] at c9
   generalize Zq A.rim n=ea at *
   generalize Zq B.rim k=eb at *
   generalize hS:v0.sub eb=S at *
   refine X1 1000 ?_
   simp (disch:=omega) only [x1,y1,lN,lK,X4,↓Xk,wD,↓X2,wA,seval,wE]
   refine X0 c1 rfl ?_
   simp (disch:=omega) only [x1,y1,lN,lK,X4,↓Xk,wD,↓X2,wA,seval,wE]
   refine X0 c2 rfl ?_
   simp (disch:=omega) only [↓Xk,wD,↓X2,wA,seval,wE]
   refine X0 c3 rfl ?_
   simp (disch:=omega) only [x1,y1,lN,lK,X4,XO,↓Xk,wD,↓X2,wA,seval,wE]
   refine X0 c5 rfl ?_
   simp (disch:=omega) only [x1,y1,lN,lK,X4,XO,↓Xk,wD,↓X2,wA,seval,wE]
   refine XW c7 ⟨XT (Ca _),Weak.rfl' _,trivial⟩ ?_
   simp (disch:=omega) only [↓Xk,wD,↓X2,wA,seval,wE]
   refine X0 c8 rfl ?_
   simp (disch:=omega) only [x1,y1,lN,lK,X4,XO,↓Xk,wD,↓X2,wA,seval,wE]
   refine X0 c6 rfl ?_
   simp (disch:=omega) only [↓Xk,wD,↓X2,wA,seval,wE]
   refine X0 c9 rfl ?_
   simp (disch:=omega) only [↓Xk,wD,↓X2,wA,seval,wE]
   exact next (x+1) _ (by omega) (by omega) (Xz (m:=2) (Nat.zero_le _) rfl (by simp [Xi,X4,lN,lK,I]) (by simp [Xj]) (by simp [XO,Xh,Xr,X4,I,sg]) (by simp [XA,bN,bK]) (by simp [XA]) (by simp [bA,bB]))
 clear next
 obtain rfl:x=2:=by omega
 have x1:=Up N 0
 have y1:=Up K 0
 rw [eN] at x1
 rw [eK] at y1
 have c2:=IC A B n0 k0 gA.even.rim gB.even.rim gA.even.near gB.even.near
 have ht:=Aq gA.even.near gB.even.near n0 k0
 generalize XU A.rim B.rim n0 k0=T at *
 obtain ⟨t,ok⟩:=T
 simp only at c2 ht
 obtain ⟨f,hf⟩:∃ f:FV,f=⟨0,0,n0,k0,1+m4,t,v0,v0⟩:=⟨_,rfl⟩
 have z0:=Dv
 have ff:f.fine:=by rw [hf]; exact ⟨by show vb t≤60; omega,by show vb v0≤300; omega,by show vb v0≤300; omega⟩
 have wf:∀ t':Bool,WeakL ([I 0,I 0,I n0,I k0,I (1+m4)] ++ (vC t ++ ([.bool false,.sl 0 0 (fun _=>.any) t',.bool false,.sl 0 0 (fun _=>.any) t',.bool false,.sl 0 0 (fun _=>.any) t',.bool false,.sl 0 0 (fun _=>.any) t'] ++ [.bool false,.sl 0 0 (fun _=>.any) t',.bool false,.sl 0 0 (fun _=>.any) t',.bool false,.sl 0 0 (fun _=>.any) t',.bool false,.sl 0 0 (fun _=>.any) t']))) (Qa f):=fun t'=>by
  rw [hf]
  obtain ⟨w1,w2,w3,w4,w5,w6,w7,w8,_⟩:=Ca t'
  exact ⟨Weak.rfl' _,Weak.rfl' _,Weak.rfl' _,Weak.rfl' _,Weak.rfl' _,Weak.rfl' _,Weak.rfl' _,Weak.rfl' _,Weak.rfl' _,Weak.rfl' _,Weak.rfl' _,Weak.rfl' _,Weak.rfl' _,w1,w2,w3,w4,w5,w6,w7,w8,w1,w2,w3,w4,w5,w6,w7,w8,trivial⟩
 obtain ⟨G1,cG1,fG1⟩:=U4 f ff.turn (by rw [hf]; show vb v0≤250; omega) (by rw [hf]; show vb v0≤250; omega) how b hh hb
 obtain ⟨G2,cG2,fG2⟩:=U4 f ff.turn (by rw [hf]; show vb v0≤250; omega) (by rw [hf]; show vb v0≤250; omega) b how hb hh
 clear hf
 refine X1 1000 ?_
 simp (disch:=omega) only [x1,y1,lN,lK,X4,↓Xk,wD,↓X2,wA,seval,wE]
 refine X0 c2 rfl ?_
 simp (disch:=omega) only [x1,y1,lN,lK,X4,↓Xk,wD,↓X2,wA,seval,wE]
 refine X0 c4 rfl ?_
 simp (disch:=omega) only [w4,↓Xk,wD,↓X2,wA,seval,wE]
 refine XW cG1 ⟨XT (wf _),Weak.rfl' _,Weak.rfl' _,trivial⟩ ?_
 simp (disch:=omega) only [↓Xk,wD,↓X2,wA,seval,wE]
 refine XW cG2 ⟨XT (wf _),Weak.rfl' _,Weak.rfl' _,trivial⟩ ?_
 simp (config:={ maxSteps:=2000000 }) (disch:=omega) only [KP,Qa,List.cons_append,List.nil_append,↓Xk,wD,↓X2,wA,seval,wE]
 have wF:∀ t':Bool,Weak (.sl 3 87 (Xo (([I 0,I 0,I n0,I k0,I (1+m4)] ++ (vC t ++ ([.bool false,.sl 0 0 (fun _=>.any) t',.bool false,.sl 0 0 (fun _=>.any) t',.bool false,.sl 0 0 (fun _=>.any) t',.bool false,.sl 0 0 (fun _=>.any) t'] ++ [.bool false,.sl 0 0 (fun _=>.any) t',.bool false,.sl 0 0 (fun _=>.any) t',.bool false,.sl 0 0 (fun _=>.any) t',.bool false,.sl 0 0 (fun _=>.any) t']))) ++ (Qa G1 ++ (Qa G2 ++ [])))) true) (Nr [f,G1,G2]):=fun t'=>YS (L:=[f,G1,G2]) (MR _ (wf t')) rfl rfl (Nat.succ_pos _)
 have hLf:∀ j,j<3→FV.fine ([f,G1,G2].getD j Cb):=fun j hj=>by
  match j,hj with
  | 0,_=>exact ff
  | 1,_=>exact fG1
  | 2,_=>exact fG2
  | j+3,h=>omega
 have lLf:[f,G1,G2].length=3:=rfl
 generalize [f,G1,G2]=L at *
 have bL:Kl 2 (Nr L)=True:=eq_true (X8 (Zn L))
 refine Xf (fun x:Nat=>⟨33,[],[.any,.any,.any,.any,.any,.any,.any,.any,.any,.any,.any,.any,.any,.ref 0 0 0,.ref 1 0 0,.any,.any,.any,.any,.any,.any,.any,.any,.any,.any,Nr L,I x,.any,.any,.any,.any,.any,.any],[],[.con 0 25 (Xo (XO A)),.con 0 25 (Xo (XO B))]⟩) (fun x=>x≤3) (fun x=>3 - x) 0 (by omega)
  (Sub.trans (Zf 25 (Nr L) (by show 25<33; omega) (Kr (wF _))) (Xz (m:=2) (Nat.zero_le _) rfl (by simp [AS.put,Xi,I]) (by simp [AS.put,Xj]) (by simp [XO,Xh,Xr,X4,I,sg]) (by simp [XA,bL]) (by simp [XA]) (by simp [bA,bB]))) ?_
 intro x hx next
 by_cases hx2:x<3
 rotate_left
 ·refine X1 1000 ?_
  simp (disch:=omega) only [Qg,lLf,↓Xk,wD,↓X2,wA,seval,wE]
  refine X0 T1 rfl ?_
  simp (disch:=omega) only [↓Xk,wD,↓X2,wA,seval,wE]
  exact Xt rfl rfl (X3 _) rfl
 have z1:=fF L x
 have z2:=rU L x
 have hg:=hLf x hx2
 generalize L.getD x Cb=g at *
 have qa:=gA.qt; have qb':=gB.qt
 have c1:=ES A B g gA.even gB.even (by have:=hg.turn; omega) gA.tol gB.tol (by omega) (by omega)
 have c2:=Yk A B g gA.even gB.even (by have:=hg.turn; omega) gA.tol gB.tol (by omega) (by omega)
 have hs:=HK A B g gA.even.near gB.even.near (ta+tb) hg.turn
 have qs:=K2 ta tb
 generalize XD A.rim B.rim g (ta+tb)=T at *
 obtain ⟨lo,hi,ok⟩:=T
 simp only at c1 c2 hs
 have c3:=AU lo lo (by unfold vm; omega) (by unfold vm; omega)
 have c4:=AU hi hi (by unfold vm; omega) (by unfold vm; omega)
 rw [decide_eq_true rfl] at c3 c4
 cases ok
 all_goals
  refine X1 1000 ?_
  simp (disch:=omega) only [z1,z2,lLf,Qg,Qa,↓Xk,wD,↓X2,wA,seval,wE]
  refine X0 c1 rfl ?_
  simp (disch:=omega) only [z1,z2,lLf,Qg,Qa,↓Xk,wD,↓X2,wA,seval,wE]
  refine X0 c2 rfl ?_
  simp (disch:=omega) only [↓Xk,wD,↓X2,wA,seval,wE]
  refine X0 c3 rfl ?_
  simp (disch:=omega) only [↓Xk,wD,↓X2,wA,seval,wE]
  refine X0 c4 rfl ?_
  simp (disch:=omega) only [↓Xk,wD,↓X2,wA,seval,wE]
  exact next (x+1) _ (by omega) (by omega) (Xz (m:=2) (Nat.zero_le _) rfl (by simp [Xi,Qg,lLf,I]) (by simp [Xj]) (by simp [XO,Xh,Xr,X4,I,sg]) (by simp [XA,bL]) (by simp [XA]) (by simp [bA,bB]))
end
end Go.Ab.N
