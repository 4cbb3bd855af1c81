/- Contracts of functions of these chapters, for every argument that fits, and what they need. -/
import Derived.Test.YtefjhgcndhepeaaGreatC13
import Derived.Test.YtefjhgcndhepeaaGreatC14
import Derived.Test.YtefjhgcndhepeaaGreatC12
set_option linter.unusedSimpArgs false
set_option linter.unusedVariables false
open Nat renaming reducePow → Y1, reduceLT → Y2, reduceLeDiff → Y3, reduceEqDiff → Y4, reduceAdd → Y5, reduceMul → Y6, reduceSub → Y7, reduceBEq → Y8, reduceDiv → Y9, reduceMod → YA
namespace Go.Ab.N
open Go Go.RowKit Go.Proofs
noncomputable section
set_option maxRecDepth 10000
set_option maxHeartbeats 4000000
open Classical
theorem Rc {R:List (Int×Int)} (hn:QV R) (k:Nat):((0≤(FB R k).1*(FB R k).1∧(FB R k).1*(FB R k).1≤17179869184)∧(0≤(FB R k).2*(FB R k).2∧(FB R k).2*(FB R k).2≤17179869184))∧0≤RC R k∧RC R k≤34359738368:=by
 have h0:=CB hn k
 unfold RC
 generalize FB R k=D at *
 have key:∀ x:Int,-131072≤x∧x≤131072→0≤x*x∧x*x≤17179869184:=fun x hx=>by
  rcases Int.le_total 0 x with h | h
  ·exact ⟨Int.mul_nonneg h h,Int.mul_le_mul hx.2 hx.2 h (by omega)⟩
  ·have:=Int.mul_le_mul (show -x≤131072 by omega) (show -x≤131072 by omega) (by omega) (by omega)
   rw [Int.neg_mul_neg] at this
   exact ⟨Int.mul_nonneg_of_nonpos_of_nonpos h h,this⟩
 have h1:=key D.1 h0.1
 have h2:=key D.2 h0.2
 omega
def oW (a b:PV) (f:FV) (k:Nat):Int:=if a.marks.getD (xK a.rim.length f k) 0≠0∧a.marks.getD (xK a.rim.length f k) 0=b.marks.getD (yK b.rim.length f k) 0 then 1000 else 0
def PU (a b:PV) (f:FV):Nat→Int
 | 0=>0
 | k+1=>PU a b f k+RC a.rim (xK a.rim.length f k)+oW a b f k
def G9 (a b:PV) (f:FV):Int:=if Cr a.rim.length b.rim.length f then PU a b f f.M.toNat else 0
theorem MD {a:PV} (b:PV) (f:FV) (hn:QV a.rim):∀ k:Nat,0≤PU a b f k∧PU a b f k≤34359739368*k
 | 0=>by simp [PU]
 | k+1=>by
  have ih:=MD b f hn k
  have h:=(Rc hn (xK a.rim.length f k)).2
  have h2:0≤oW a b f k∧oW a b f k≤1000:=by unfold oW; split <;> omega
  simp only [PU]
  omega
theorem Wh (a b:PV) (f:FV) (ha:a.even) (hb:b.even):Fn Tryz.prog 62 [JM a,JM b,Ap f] (I (G9 a b f)):=by
 have la:=ha.rim; have lb:=hb.rim
 have cs:=CF a b f la lb
 obtain ⟨V,hV⟩:∃ V,V=G9 a b f:=⟨_,rfl⟩
 rw [← hV]
 have fin:∀ {s:AS} {v:Int},s.get 6=I v→v=V→RetOk (J4 Tryz.prog Tryz.f62 [] [] (I V)) s:=fun h e=>Xv rfl h (Xa _) (by rw [e])
 by_cases hf:Cr a.rim.length b.rim.length f
 rotate_left
 ·rw [decide_eq_false hf] at cs
  refine Fq Tryz.call62 Tryz.func62 11 [19,20,21] [] [] (by simp [XI,QX]) (X0 1000 ?_)
  simp (disch:=omega) only [AS.start,JM,XW,Ap,Qo,↓Xl,wD,↓X2,wA,seval,wE]
  refine X1 cs rfl ?_
  simp (disch:=omega) only [↓Xl,wD,↓X2,wA,seval,wE]
  exact fin rfl (by rw [hV]; unfold G9; rw [if_neg hf])
 rw [decide_eq_true hf] at cs
 have ce:=EQ a b f hf la lb
 have hVe:V=PU a b f f.M.toNat:=by rw [hV]; unfold G9; rw [if_pos hf]
 obtain ⟨⟨s1,s2⟩,⟨s3,s4⟩,s5,s6,s7⟩:=hf
 obtain ⟨N,hN⟩:∃ N:Nat,f.M=N:=⟨f.M.toNat,by omega⟩
 rw [hN,Int.toNat_natCast] at hVe
 obtain ⟨L,hL⟩:∃ L,L=CC a.rim.length b.rim.length f:=⟨_,rfl⟩
 have hlen:L.length=N:=by rw [hL,Ao,hN]; rfl
 have hat:∀ k,k<N→L.getD k (0,0)=((xK a.rim.length f k:Int),(yK b.rim.length f k:Int)):=fun k hk=>by rw [hL]; exact Dv _ _ _ _ (by omega)
 rw [← hL] at ce
 clear hL
 have ba:XS 3 (.row 0 25 (Xn (XW a)))=True:=eq_true (XM (XE a))
 have bb:XS 3 (.row 0 25 (Xn (XW b)))=True:=eq_true (XM (XE b))
 have bf:XS 3 (.row 0 29 (Xn (Qo f)))=True:=eq_true (XM (Qe f))
 have bL:Kd 3 (Ck L)=True:=eq_true (X9 (Qn _))
 refine Fq Tryz.call62 Tryz.func62 11 [19,20,21] [] [] (by simp [XI,QX]) (X0 1000 ?_)
 simp (disch:=omega) only [AS.start,JM,XW,Ap,Qo,↓Xl,wD,↓X2,wA,seval,wE]
 refine X1 cs rfl ?_
 simp (disch:=omega) only [XW,Qo,↓Xl,wD,↓X2,wA,seval,wE]
 refine X1 ce rfl ?_
 simp (disch:=omega) only [Xj,hlen,↓Xl,wD,↓X2,wA,seval,wE]
 refine Xf (fun k:Nat=>⟨11,[19,20,21],[.any,.any,.any,.ref 0 0 0,.ref 1 0 0,.ref 2 0 0,.any,I (PU a b f k),.any,.any,.any],[(19,Ck L),(20,I N),(21,I k)],[.row 0 25 (Xn (XW a)),.row 0 25 (Xn (XW b)),.row 0 29 (Xn (Qo f))]⟩) (fun k=>k≤N) (fun k=>N - k) 0 (by omega)
  (Xb rfl (by simp [Xh,I,PU]) (by simp [Xi,Xp,Xj,hlen,I]) (by simp [XW,Qo,Xj,Xw,X5,I,sg])) ?_
 intro k hk next
 by_cases hk2:k<N
 rotate_left
 ·obtain rfl:k=N:=by omega
  refine X0 1000 ?_
  simp (disch:=omega) only [↓Xl,wD,↓X2,wA,seval,wE]
  exact fin rfl hVe.symm
 have hx:=UW a.rim.length f k (by omega)
 have hy:=mA b.rim.length f k (by omega)
 have cq:=Ej a (xK a.rim.length f k) hx la ha.near
 have bq:=(Rc ha.near (xK a.rim.length f k)).2
 have bn:=MD b f ha.near k
 have v1:=kM L k
 rw [hat k hk2] at v1
 have hnext:PU a b f (k+1)=PU a b f k+RC a.rim (xK a.rim.length f k)+oW a b f k:=rfl
 have hsc:oW a b f k=if a.marks.getD (xK a.rim.length f k) 0≠0∧a.marks.getD (xK a.rim.length f k) 0=b.marks.getD (yK b.rim.length f k) 0 then 1000 else 0:=rfl
 have ea:=ha.marks; have eb:=hb.marks
 generalize RC a.rim (xK a.rim.length f k)=Q at *
 generalize xK a.rim.length f k=X at *
 generalize yK b.rim.length f k=Y at *
 have w1:IntKind.i64.wrap (PU a b f k+Q)=PU a b f k+Q:=by rw [IntKind.wrap_i64]; omega
 have w2:IntKind.i64.wrap (PU a b f k+Q+1000)=PU a b f k+Q+1000:=by rw [IntKind.wrap_i64]; omega
 have c0:∀ c,oW a b f k=c→PU a b f (k+1)=PU a b f k+Q+c:=fun c hc=>by rw [hnext,hc]
 have t1:(1:Int).toNat=1:=rfl
 by_cases h0:a.marks.getD X 0=0
 ·have e:=c0 0 (by rw [hsc,if_neg (fun h=>h.1 h0)])
  rw [Int.add_zero] at e
  refine X0 1000 ?_
  simp (disch:=omega) only [v1,w1,hlen,Xj,XW,Qo,X5,↓Xl,wD,↓X2,wA,seval,wE]
  refine X1 cq rfl ?_
  simp (disch:=omega) only [v1,w1,hlen,eq_true h0,Xj,XW,Qo,X5,↓Xl,wD,↓X2,wA,seval,wE]
  exact next (k+1) _ (by omega) (by omega) (XA (m:=3) (Nat.zero_le _) rfl (by simp [Xh,I,e]) (by simp [Xi,Xp,Xj,hlen,I]) (by simp [XW,Qo,Xj,Xw,X5,I,sg]) (by simp [Xz]) (by simp [Xz,bL]) (by simp [ba,bb,bf]))
 by_cases h1:a.marks.getD X 0=b.marks.getD Y 0
 ·have e:=c0 1000 (by rw [hsc,if_pos ⟨h0,h1⟩])
  refine X0 1000 ?_
  simp (disch:=omega) only [v1,w1,hlen,Xj,XW,Qo,X5,↓Xl,wD,↓X2,wA,seval,wE]
  refine X1 cq rfl ?_
  simp (disch:=omega) only [v1,w1,w2,t1,hlen,eq_false h0,eq_true h1,Xj,XW,Qo,X5,↓Xl,wD,↓X2,wA,seval,wE]
  exact next (k+1) _ (by omega) (by omega) (XA (m:=3) (Nat.zero_le _) rfl (by simp [Xh,I,e]) (by simp [Xi,Xp,Xj,hlen,I]) (by simp [XW,Qo,Xj,Xw,X5,I,sg]) (by simp [Xz]) (by simp [Xz,bL]) (by simp [ba,bb,bf]))
 ·have e:=c0 0 (by rw [hsc,if_neg (fun h=>h1 h.2)])
  rw [Int.add_zero] at e
  refine X0 1000 ?_
  simp (disch:=omega) only [v1,w1,hlen,Xj,XW,Qo,X5,↓Xl,wD,↓X2,wA,seval,wE]
  refine X1 cq rfl ?_
  simp (disch:=omega) only [v1,w1,w2,t1,hlen,eq_false h0,eq_false h1,Xj,XW,Qo,X5,↓Xl,wD,↓X2,wA,seval,wE]
  exact next (k+1) _ (by omega) (by omega) (XA (m:=3) (Nat.zero_le _) rfl (by simp [Xh,I,e]) (by simp [Xi,Xp,Xj,hlen,I]) (by simp [XW,Qo,Xj,Xw,X5,I,sg]) (by simp [Xz]) (by simp [Xz,bL]) (by simp [ba,bb,bf]))
end
end Go.Ab.N
namespace Go.Ab.N
open Go Go.RowKit Go.Proofs
set_option maxRecDepth 10000
set_option maxHeartbeats 4000000
def oo (a b c p:V2):Bool:=decide (0≤Jj a b p) && decide (0≤Jj b c p) && decide (0≤Jj c a p)
def df (L:List V2) (a b c k:Nat):Bool:=decide (k=a) || decide (k=c) || decide (k=b) || !oo (L.getD a v0) (L.getD b v0) (L.getD c v0) (L.getD k v0)
def jv (L:List V2) (R:List Nat) (p:Nat):Bool:=decide (0<RB L R p) && (List.range R.length).all fun j=>df L (nr R (p+R.length - 1)) (R.getD p 0) (nr R (p+R.length+1)) (R.getD j 0)
theorem dG (a b c p:V2):oo a b c p=true↔ol a b c p:=by
 unfold oo ol
 simp only [Bool.and_eq_true,decide_eq_true_eq,and_assoc]
theorem LY (L:List V2) (a b c k:Nat):df L a b c k=true↔DL L a b c k:=by
 unfold df DL
 rw [← dG]
 simp only [Bool.or_eq_true,decide_eq_true_eq,or_assoc,Bool.not_eq_true',Bool.not_eq_true]
open Classical in
theorem jw (L:List V2) (R:List Nat) (p:Nat):CA L R p=jv L R p:=by
 unfold CA jv
 rw [Bool.eq_iff_iff,decide_eq_true_eq,Bool.and_eq_true,decide_eq_true_eq,List.all_eq_true]
 refine and_congr_right fun _=>⟨fun h j hj=>(LY _ _ _ _ _).2 (h j (List.mem_range.1 hj)),fun h j hj=>(LY _ _ _ _ _).1 (h j (List.mem_range.2 hj))⟩
def TY (L:List V2) (R:List Nat):Nat:=(List.range (R.length - 1)).findIdx (jv L R)
theorem bX (L:List V2) (R:List Nat):FO L R=TY L R:=by
 unfold FO TY
 rw [show CA L R=jv L R from funext (jw L R)]
def cZ (L:List V2) (R:List Nat):Nat:=(List.range R.length).findIdx fun p=>decide (RB L R p=0)
theorem d7 (L:List V2) (R:List Nat):A9 L R=cZ L R:=by
 rfl
def jf (L:List V2):Nat→List Nat→List Nat
 | 0,R=>R
 | f+1,R=>if 3<R.length∧cZ L R<R.length then jf L f (R.eraseIdx (cZ L R)) else R
theorem TQ (L:List V2):∀ (f:Nat) (R:List Nat),AF L f R=jf L f R
 | 0,_=>rfl
 | f+1,R=>by
  unfold AF jf
  rw [d7,TQ L f]
def jp (L:List V2):Nat→List Nat→List (Nat×Nat×Nat)
 | 0,R=>[(R.getD 0 0,R.getD 1 0,R.getD 2 0)]
 | f+1,R=>if 3<R.length then Lw R (TY L R) :: jp L f (jf L (R.length - 1) (R.eraseIdx (TY L R))) else [(R.getD 0 0,R.getD 1 0,R.getD 2 0)]
theorem TT (L:List V2):∀ (f:Nat) (R:List Nat),BM L f R=jp L f R
 | 0,_=>rfl
 | f+1,R=>by
  unfold BM jp DC
  rw [bX,TQ,TT L f]
def N9 (p:PV) (t c:V2):List (List V2):=((jp (Xx p.rim) p.rim.length (List.range p.rim.length)).map (fR (Xx p.rim))).map (As t c)
theorem LK (p:PV) (t c:V2):Kh p t c=N9 p t c:=by
 unfold Kh N9 Ki DB
 rw [TT,show (Xx p.rim).length=p.rim.length by simp [Xx]]
def qR (n:V2) (A B:List V2) (e:Rat):Bool:=decide (e*BE n≤Nk n A B)
def eJ (A B:List V2) (e:Rat):Bool:=(Ch A B).any fun d=>qR d A B e
def nk (A B:List (List V2)) (e:Rat):Bool:=A.all fun x=>B.all fun y=>eJ x y e
open Classical in
theorem eK (A B:List V2) (e:Rat):(Bs A B e).2=eJ A B e:=by
 unfold Bs eJ
 rw [Bool.eq_iff_iff,I0,List.any_eq_true]
 unfold PZ qR
 simp only [decide_eq_true_eq]
theorem O9 {α:Type} (l:List α) (d:α) (p:α→Bool):(∀ i,i<l.length→p (l.getD i d)=true)↔l.all p=true:=by
 rw [List.all_eq_true]
 constructor
 ·intro h x hx
  obtain ⟨i,hi,rfl⟩:=List.getElem_of_mem hx
  have:=h i hi
  rwa [List.getD_eq_getElem?_getD,List.getElem?_eq_getElem hi] at this
 ·intro h i hi
  rw [List.getD_eq_getElem?_getD,List.getElem?_eq_getElem hi]
  exact h _ (List.getElem_mem hi)
open Classical in
theorem iq (A B:List (List V2)) (e:Rat):O4 A B e=nk A B e:=by
 unfold O4 nk
 rw [Bool.eq_iff_iff,decide_eq_true_eq,← O9 A []]
 refine forall_congr' fun i=>forall_congr' fun _=>?_
 unfold O6
 rw [decide_eq_true_eq,← O9 B []]
 refine forall_congr' fun k=>forall_congr' fun _=>?_
 unfold Zz
 rw [eK]
def aY (a b:PV) (f:FV) (e:Rat):Bool:=nk (N9 a KT v0) (N9 b f.turn (Ig f)) (-e)
theorem VT (a b:PV) (f:FV) (e:Rat):A2 a b f e=aY a b f e:=by
 unfold A2 aY
 rw [iq,LK,LK]
def qU (n m:Nat) (f:FV):Bool:=decide ((0≤f.EA∧f.EA<n)∧(0≤f.EB∧f.EB<m)∧1≤f.M∧f.M<n∧f.M<m)
theorem Fo {n m:Nat} {f:FV}:qU n m f=true↔Cr n m f:=decide_eq_true_iff
def py (g:Nat→Rat):Nat→Rat
 | 0=>g 0
 | k+1=>if py g k<g (k+1) then g (k+1) else py g k
def pv (g:Nat→Rat):Nat→Rat
 | 0=>g 0
 | k+1=>if g (k+1)<pv g k then g (k+1) else pv g k
theorem SX (g:Nat→Rat):∀ k,ek g k=py g k
 | 0=>rfl
 | k+1=>by
  unfold ek py Yw
  rw [SX g k]
theorem SW (g:Nat→Rat):∀ k,e6 g k=pv g k
 | 0=>rfl
 | k+1=>by
  unfold e6 pv Yv
  rw [SW g k]
def r9 (a b:List (Int×Int)) (f:FV) (k:Nat):V2:=⟨py (fun j=>(AE a b f j).x) k,py (fun j=>(AE a b f j).y) k⟩
def r8 (a b:List (Int×Int)) (f:FV) (k:Nat):V2:=⟨pv (fun j=>(AE a b f j).x) k,pv (fun j=>(AE a b f j).y) k⟩
theorem oz (a b:List (Int×Int)) (f:FV) (k:Nat):CM a b f k=r9 a b f k:=by unfold CM r9; rw [SX,SX]
theorem oe (a b:List (Int×Int)) (f:FV) (k:Nat):CJ a b f k=r8 a b f k:=by unfold CJ r8; rw [SW,SW]
def TE (a b:List (Int×Int)) (f:FV) (c:V2):Bool :=
 qU a.length b.length f && decide (f.turn.x*f.turn.x+f.turn.y*f.turn.y=1) && decide ((r9 a b f f.M.toNat).x=c.x) && decide ((r9 a b f f.M.toNat).y=c.y) && decide ((r8 a b f f.M.toNat).x=c.x) && decide ((r8 a b f f.M.toNat).y=c.y)
theorem LC {a b:List (Int×Int)} {f:FV} {c:V2} (h:TE a b f c=true):XC a b f 0=(c,c,true):=by
 unfold TE at h
 simp only [Bool.and_eq_true,decide_eq_true_eq] at h
 obtain ⟨⟨⟨⟨⟨h1,h2⟩,h3⟩,h4⟩,h5⟩,h6⟩:=h
 have e1:CM a b f f.M.toNat=c:=by rw [oz,V2.ext']; exact ⟨h3,h4⟩
 have e2:CJ a b f f.M.toNat=c:=by rw [oe,V2.ext']; exact ⟨h5,h6⟩
 unfold XC
 rw [if_pos ⟨Fo.1 h1,h2⟩]
 simp only [e1,e2]
 have z1:c.sub ⟨0,0⟩=c:=by unfold V2.sub; rw [V2.ext']; exact ⟨by simp only; grind,by simp only; grind⟩
 have z2:c.add ⟨0,0⟩=c:=by unfold V2.add; rw [V2.ext']; exact ⟨by simp only; grind,by simp only; grind⟩
 rw [z1,z2,if_neg (fun h=>by rcases h with h | h <;> exact absurd h (Rat.lt_irrefl))]
theorem ep (g:Nat→Rat):∀ n k,k≤n→g k≤ek g n
 | 0,k,h=>by
  obtain rfl:k=0:=by omega
  exact Rat.le_refl
 | n+1,k,h=>by
  unfold ek Yw
  by_cases hk:k=n+1
  ·subst hk
   split
   ·exact Rat.le_refl
   ·rename_i h; exact Rat.not_lt.1 h
  ·have ih:=ep g n k (by omega)
   split
   ·rename_i h; exact Rat.le_trans ih (Rat.le_of_lt h)
   ·exact ih
theorem e9 (g:Nat→Rat):∀ n k,k≤n→e6 g n≤g k
 | 0,k,h=>by
  obtain rfl:k=0:=by omega
  exact Rat.le_refl
 | n+1,k,h=>by
  unfold e6 Yv
  by_cases hk:k=n+1
  ·subst hk
   split
   ·exact Rat.le_refl
   ·rename_i h; exact Rat.not_lt.1 h
  ·have ih:=e9 g n k (by omega)
   split
   ·rename_i h; exact Rat.le_trans (Rat.le_of_lt h) ih
   ·exact ih
theorem LD {a b:List (Int×Int)} {f:FV} (h:(XC a b f 0).2.2=true) (i j:Nat) (hi:i≤f.M.toNat) (hj:j≤f.M.toNat):AE a b f i=AE a b f j:=by
 obtain ⟨_,_,_,h1,h2⟩:=ED h
 have z:∀ x y:Rat,x - 0≤y+0→x≤y:=fun x y h=>by grind
 have h1:=z _ _ h1
 have h2:=z _ _ h2
 have t:∀ (g:Nat→Rat),ek g f.M.toNat≤e6 g f.M.toNat→g i=g j:=fun g hg=>by
  have a1:=ep g _ i hi; have a2:=ep g _ j hj; have a3:=e9 g _ i hi; have a4:=e9 g _ j hj
  exact Rat.le_antisymm (Rat.le_trans a1 (Rat.le_trans hg a4)) (Rat.le_trans a2 (Rat.le_trans hg a3))
 rw [V2.ext']
 exact ⟨t (fun k=>(AE a b f k).x) h1,t (fun k=>(AE a b f k).y) h2⟩
def Cp:List (Int×Int):=[(0,0),(2,0),(3,2),(2,4),(0,4)]
def Cq:List (Int×Int):=[(0,0),(2,0),(1,2),(2,4),(0,4)]
def exA:PV:=Bd Cp
def exB:PV:=Bd Cq
def exT:V2:=⟨-1,0⟩
def jA:FV:=⟨0,1,1,2,2,exT,v0,v0⟩
def Ll (eb m:Int):FV:=⟨0,1,1,eb,m,exT,⟨4,4⟩,⟨4,4⟩⟩
theorem Mq (R:List (Int×Int)) (h:CX (Xx R)=true) (hn:∀ c∈R,(-65536≤c.1∧c.1≤65536)∧(-65536≤c.2∧c.2≤65536)) (hl:R.length<1000000):GP (Bd R) 0 :=
 ⟨⟨hl,by simp [Bd],by simp [Bd],hn⟩,CY _ h,rfl,by have:=Zh; omega⟩
theorem exA_gp:GP exA 0:=Mq Cp (by decide +kernel) (by decide) (by decide)
theorem exB_gp:GP exB 0:=Mq Cq (by decide +kernel) (by decide) (by decide)
theorem aA {a b t:V2} (h:Q7 a a≠0∧Q7 a a=Q7 b b∧Q7 a b / Q7 a a=t.x∧Qg a b / Q7 a a=t.y):K3 a b=(t,0):=by
 obtain ⟨h1,h2,h3,h4⟩:=h
 unfold K3
 rw [if_neg (by rw [← h2]; simp [h1]),if_pos h2]
 rw [Prod.mk.injEq,V2.ext']
 exact ⟨⟨h3,h4⟩,rfl⟩
theorem LG {a b:List (Int×Int)} {i j:Int} {t:V2} (h:dF a.length b.length i j) (h2:Q7 (ZO (BQ b j.toNat)) (ZO (BQ b j.toNat))≠0∧Q7 (ZO (BQ b j.toNat)) (ZO (BQ b j.toNat))=Q7 (BQ a i.toNat) (BQ a i.toNat) ∧
  Q7 (ZO (BQ b j.toNat)) (BQ a i.toNat) / Q7 (ZO (BQ b j.toNat)) (ZO (BQ b j.toNat))=t.x∧Qg (ZO (BQ b j.toNat)) (BQ a i.toNat) / Q7 (ZO (BQ b j.toNat)) (ZO (BQ b j.toNat))=t.y):QF a b i j=(t,true):=by
 unfold QF
 rw [if_pos h,aA h2]; rfl
theorem LF {a b:List (Int×Int)} {i j:Int} (h2:Q7 (ZO (BQ b j.toNat)) (ZO (BQ b j.toNat))≠Q7 (BQ a i.toNat) (BQ a i.toNat)):QF a b i j=(v0,false):=by
 unfold QF
 split
 ·obtain ⟨e1,e2⟩:=EF _ _ h2
  rw [e1,decide_eq_false e2]
 ·rfl
theorem SE:QF Cp Cq 1 2=(exT,true):=LG (by unfold dF; decide) (by decide +kernel)
theorem oa:QF Cp Cq 0 2=(v0,false):=LF (by decide +kernel)
theorem cQ:XC Cp Cq jA 0=(⟨4,4⟩,⟨4,4⟩,true):=LC (by decide +kernel)
theorem W6 (m:Int) (h:m=1∨m=2):XC Cp Cq (Ll 2 m) 0=(⟨4,4⟩,⟨4,4⟩,true):=by
 rcases h with rfl | rfl <;> exact LC (by decide +kernel)
theorem eX {a b:PV} {f:FV} (h:((List.range f.M.toNat).all fun k=>!aN a b f k)=true):GU a b f:=fun k hk=>by
 have:=List.all_eq_true.1 h k (List.mem_range.2 hk)
 simpa using this
theorem HX (m:Int) (h:m=1∨m=2):A1 exA exB (Ll 2 m) 0=0:=by
 rw [EL]
 refine ⟨?_,?_,⟨0,?_,?_,?_⟩,?_,?_⟩
 ·rcases h with rfl | rfl <;> exact Fo.1 (by decide)
 ·rcases h with rfl | rfl <;> exact eX (by decide +kernel)
 ·rcases h with rfl | rfl <;> decide
 ·rcases h with rfl | rfl <;> exact congrArg (·.2) SE
 ·rcases h with rfl | rfl <;> exact congrArg (·.1) SE
 ·have:=W6 m h
  show (XC Cp Cq (Ll 2 m) 0).2.2=true∧(XC Cp Cq (Ll 2 m) 0).1=_∧(XC Cp Cq (Ll 2 m) 0).2.1=_
  rw [this]; exact ⟨rfl,rfl,rfl⟩
 ·rw [VT]
  rcases h with rfl | rfl <;> decide +kernel
theorem cV:A1 exA exB (Ll 3 2) 0=21:=by
 unfold A1
 rw [if_pos (Fo.1 (by decide)),if_pos (eX (by decide +kernel)),if_neg]
 rintro ⟨k,hk,h1,h2⟩
 have hk:k<2:=hk
 have e0:QF Cp Cq 1 3=(v0,false):=LF (by decide +kernel)
 have e1:QF Cp Cq 2 2=(⟨-3 / 5,-4 / 5⟩,true):=LG (by unfold dF; decide) (by decide +kernel)
 match k,hk with
 | 0,_ =>
  have:(QF Cp Cq 1 3).2=true:=h1
  rw [e0] at this; cases this
 | 1,_ =>
  have:(QF Cp Cq 2 2).1=exT:=h2
  rw [e1,V2.ext'] at this
  exact absurd this.1 (by decide +kernel)
theorem cU:G9 exA exB (Ll 2 2)=10:=by
 unfold G9
 rw [if_pos (Fo.1 (by decide))]
 decide +kernel
open Classical in
theorem cT:Ll 2 2∈I1 exA exB 0:=by
 refine List.mem_filter.2 ⟨VR (HX 2 (.inr rfl)) rfl rfl (by decide) (by decide),?_⟩
 rw [Bool.not_eq_true',Bool.eq_false_iff]
 intro h
 unfold NQ at h
 obtain ⟨g,hg,hp⟩:=List.any_eq_true.1 h
 have hp:Ml 5 5 (Ll 2 2) g:=of_decide_eq_true hp
 have hc:=Gk hg (by decide) (by decide)
 obtain ⟨_,_,_,⟨ha,_⟩,_⟩:=(EL exA exB g 0).1 hc
 obtain ⟨_,_,q1,q2,q3,q4,q5⟩:=Hy hg (by decide) (by decide)
 obtain ⟨A,B,EA,EB,M,t,lo,hi⟩:=g
 have q1:0≤EA∧EA<5:=q1
 have q2:0≤EB∧EB<5:=q2
 have q4:M<5:=q4
 obtain ⟨p1,p2,p3,p4⟩:=hp
 have p1:2<M:=p1
 have p2:(1 - EA) % 5+2≤M:=p2
 have p3:(EB - (1 - EA) % 5) % 5=2:=p3
 have p4:exT=t:=p4
 subst p4
 have key:∀ (i:Nat),i≤M.toNat→AE Cp Cq ⟨0,0,EA,EB,0,exT,v0,v0⟩ i=AE Cp Cq ⟨0,0,EA,EB,0,exT,v0,v0⟩ 0:=fun i h=>LD ha i 0 h (by omega)
 have k3:=key 3 (by omega)
 have k4:=fun h=>key 4 h
 have c:(EA=1∧EB=2)∨(EA=0∧EB=3)∨(EA=4∧EB=4∧M=4):=by omega
 rcases c with ⟨rfl,rfl⟩ | ⟨rfl,rfl⟩ | ⟨rfl,rfl,rfl⟩
 ·exact absurd k3 (by rw [V2.ext']; decide +kernel)
 ·exact absurd k3 (by rw [V2.ext']; decide +kernel)
 ·exact absurd (k4 (by decide)) (by rw [V2.ext']; decide +kernel)
end Go.Ab.N
namespace Go.Ab.N
open Go Go.RowKit Go.Proofs
noncomputable section
set_option maxRecDepth 10000
set_option maxHeartbeats 4000000
open Classical
theorem kL (p:Int×Int):(JQ p).length=2:=rfl
theorem FA (R:List (Int×Int)) (n m:Nat) (t:Bool) (l:List AV) (hl:l=R.flatMap JQ) (hn:n=R.length) (hm:m=R.length*2) (h0:0<R.length):Weak (.sl n m (Xn l) t) (Ck R):=by
 subst hn hm hl
 rw [Xj]
 exact ZY (by rfl) (Nat.le_refl _) fun j hj=>by rw [LX JQ 2 (0,0) (by omega) kL R j hj]; exact Weak.rfl' _
theorem Ht (t:Bool):WeakL [.bool false,.sl 0 0 (fun _=>.any) t,.bool false,.sl 0 0 (fun _=>.any) t] (qC 0) :=
 have h1:X8 (0:Rat).num.natAbs=[]:=by rw [Rat.zero_num]; simp [XQ]
 have h2:X8 (qd (0:Rat))=[]:=CV rfl
 ⟨Weak.rfl' _,Qv h1,Weak.rfl' _,Qv h2,trivial⟩
def Pf (W:List FV) (f:FV) (j:Nat):Bool:=(W.take j).any fun g=>decide (g=f)
theorem Wy (W:List FV) (f:FV) (j:Nat) (h:j<W.length):Pf W f (j+1)=(Pf W f j || decide (W.getD j BT=f)):=by
 unfold Pf
 rw [List.take_succ_eq_append_getElem h,List.any_append,List.getD_eq_getElem?_getD,List.getElem?_eq_getElem h]
 simp
theorem dT {W:List FV} {f:FV} (h:f∈W):Pf W f W.length=true:=by
 unfold Pf
 rw [List.take_length,List.any_eq_true]
 exact ⟨f,h,by simp⟩
theorem gt (t:Bool):WeakL [.bool (decide (exT.x.num<0)),X6 (X8 exT.x.num.natAbs),.bool false,X6 (X8 (qd exT.x)),.bool false,.sl 0 0 (fun _=>.any) t,.bool false,.sl 0 0 (fun _=>.any) t] (vC exT):=by
 obtain ⟨u1,u2,u3,u4,_⟩:=Ht t
 exact ⟨Weak.rfl' _,Weak.rfl' _,Weak.rfl' _,Weak.rfl' _,u1,u2,u3,u4,trivial⟩
theorem gq (t:Bool):WeakL [I 0,I 1,I 1,I 2,I 2,.bool (decide (exT.x.num<0)),X6 (X8 exT.x.num.natAbs),.bool false,X6 (X8 (qd exT.x)),.bool false,.sl 0 0 (fun _=>.any) t,.bool false,.sl 0 0 (fun _=>.any) t,
  .bool false,.sl 0 0 (fun _=>.any) t,.bool false,.sl 0 0 (fun _=>.any) t,.bool false,.sl 0 0 (fun _=>.any) t,.bool false,.sl 0 0 (fun _=>.any) t,.bool false,.sl 0 0 (fun _=>.any) t,.bool false,.sl 0 0 (fun _=>.any) t,.bool false,.sl 0 0 (fun _=>.any) t,.bool false,.sl 0 0 (fun _=>.any) t] (Qo jA):=by
 obtain ⟨u1,u2,u3,u4,_⟩:=Ht t
 obtain ⟨w1,w2,w3,w4,w5,w6,w7,w8,_⟩:=IW t
 exact ⟨Weak.rfl' _,Weak.rfl' _,Weak.rfl' _,Weak.rfl' _,Weak.rfl' _,Weak.rfl' _,Weak.rfl' _,Weak.rfl' _,Weak.rfl' _,u1,u2,u3,u4,w1,w2,w3,w4,w5,w6,w7,w8,w1,w2,w3,w4,w5,w6,w7,w8,trivial⟩
theorem gr (t:Bool):WeakL ([I 0,I 1,I 1,I 2,I 2,.bool (decide (exT.x.num<0)),X6 (X8 exT.x.num.natAbs),.bool false,X6 (X8 (qd exT.x)),.bool false,.sl 0 0 (fun _=>.any) t,.bool false,.sl 0 0 (fun _=>.any) t] ++ (vC ⟨4,4⟩ ++ vC ⟨4,4⟩)) (Qo (Ll 2 2)):=by
 obtain ⟨u1,u2,u3,u4,_⟩:=Ht t
 exact ⟨Weak.rfl' _,Weak.rfl' _,Weak.rfl' _,Weak.rfl' _,Weak.rfl' _,Weak.rfl' _,Weak.rfl' _,Weak.rfl' _,Weak.rfl' _,u1,u2,u3,u4,Weak.rfl' _,Weak.rfl' _,Weak.rfl' _,Weak.rfl' _,Weak.rfl' _,Weak.rfl' _,Weak.rfl' _,Weak.rfl' _,Weak.rfl' _,Weak.rfl' _,Weak.rfl' _,Weak.rfl' _,Weak.rfl' _,Weak.rfl' _,Weak.rfl' _,Weak.rfl' _,trivial⟩
theorem nZ:(⟨((4:Int):Rat),((4:Int):Rat)⟩:V2)=⟨4,4⟩:=by rw [V2.ext']; exact ⟨by decide +kernel,by decide +kernel⟩
theorem H7 (eb m:Int):(Ll eb m).fine:=⟨by show vb exT≤60; decide +kernel,by show vb ⟨4,4⟩≤300; decide +kernel,by show vb ⟨4,4⟩≤300; decide +kernel⟩
theorem SN:Fn Tryz.prog 49 [] (.bool true):=by
 have cA:=Im Cp (by decide)
 have cB:=Im Cq (by decide)
 rw [show Bd Cp=exA from rfl] at cA
 rw [show Bd Cq=exB from rfl] at cB
 have a1:=BW exA exB 1 2 (by decide) (by decide) exA_gp.even.near exB_gp.even.near
 rw [show QF exA.rim exB.rim 1 2=(exT,true) from SE] at a1
 have a2:=BW exA exB 0 2 (by decide) (by decide) exA_gp.even.near exB_gp.even.near
 rw [show QF exA.rim exB.rim 0 2=(v0,false) from oa] at a2
 have o1:=Je (-1) 1 ⟨by omega,by omega⟩ ⟨by omega,by omega⟩
 have q0:=Zh
 have g1:=EC exA exB jA exA_gp.even exB_gp.even (by show vb exT≤1000; decide +kernel) exA_gp.tol exB_gp.tol (by omega) (by omega)
 rw [show XC exA.rim exB.rim jA (0+0)=(⟨4,4⟩,⟨4,4⟩,true) from by rw [show (0:Rat)+0=0 by decide +kernel]; exact cQ] at g1
 have hT:vb exT≤60:=by decide +kernel
 have s1:=CZ exT exT (by unfold vm; omega) (by unfold vm; omega)
 rw [decide_eq_true rfl] at s1
 have of1:=Dt 4 4 ⟨by omega,by omega⟩ ⟨by omega,by omega⟩
 rw [nZ] at of1
 have hc0:vb ⟨4,4⟩≤60:=by decide +kernel
 have hc:vb ⟨4,4⟩≤vm:=by unfold vm; omega
 have s2:=Em ⟨4,4⟩ ⟨4,4⟩ hc hc
 rw [decide_eq_true rfl] at s2
 have z0:(0:Rat)+0=0:=by decide +kernel
 have cf:=OK exA exB exA_gp exB_gp
 have hF:=OL exA_gp exB_gp
 rw [z0] at cf hF
 have hfd:=dT cT
 generalize I1 exA exB 0=W at *
 have k1:=FR exA exB (Ll 2 2) exA_gp exB_gp (H7 2 2)
 have k2:=FR exA exB (Ll 2 1) exA_gp exB_gp (H7 2 1)
 have k3:=FR exA exB (Ll 3 2) exA_gp exB_gp (H7 3 2)
 rw [z0] at k1 k2 k3
 rw [HX 2 (.inr rfl)] at k1
 rw [HX 1 (.inl rfl)] at k2
 rw [cV] at k3
 have k4:=Wh exA exB (Ll 2 2) exA_gp.even exB_gp.even
 rw [cU] at k4
 have lW:=hF.len
 have fW:=hF.fine
 clear hF
 rw [show Rat.divInt (-1) 1=exT.x by decide +kernel] at o1
 generalize hEA:exA=pa at *
 generalize hEB:exB=pb at *
 refine Fn.intro (fn:=Tryz.f49) Tryz.call49 Tryz.func49 rfl mixed 16 [] [7,8012,80000003,80000008,80000009,16] [] (by kernel_rfl) (Nat.le_of_ble_eq_true rfl) (by simp) (X0 1000 ?_)
 simp (disch:=omega) only [AS.start,↓Xl,wD,↓X2,wA,seval,wE]
 refine XV cA ⟨FA Cp _ _ _ _ rfl rfl rfl (by decide),trivial⟩ ?_
 simp (disch:=omega) only [JM,XW,↓Xl,wD,↓X2,wA,seval,wE]
 refine XV cB ⟨FA Cq _ _ _ _ rfl rfl rfl (by decide),trivial⟩ ?_
 simp (disch:=omega) only [JM,XW,↓Xl,wD,↓X2,wA,seval,wE]
 refine X1 a1 rfl ?_
 simp (disch:=omega) only [JM,XW,↓Xl,wD,↓X2,wA,seval,wE]
 refine X1 a2 rfl ?_
 simp (disch:=omega) only [JM,XW,↓Xl,wD,↓X2,wA,seval,wE]
 refine X1 o1 rfl ?_
 simp (disch:=omega) only [JM,XW,↓Xl,wD,↓X2,wA,seval,wE]
 refine XV g1 ⟨Weak.rfl' _,Weak.rfl' _,Qi (gq false),trivial⟩ ?_
 simp (disch:=omega) only [↓Xl,wD,↓X2,wA,seval,wE]
 refine XV s1 ⟨Weak.rfl' _,Qi (gt false),trivial⟩ ?_
 simp (disch:=omega) only [↓Xl,wD,↓X2,wA,seval,wE]
 refine X1 of1 rfl ?_
 simp (disch:=omega) only [↓Xl,wD,↓X2,wA,seval,wE]
 refine X1 s2 rfl ?_
 simp (disch:=omega) only [↓Xl,wD,↓X2,wA,seval,wE]
 refine X1 s2 rfl ?_
 simp (disch:=omega) only [JM,XW,↓Xl,wD,↓X2,wA,seval,wE]
 refine X1 cf rfl ?_
 simp (disch:=omega) only [↓Xl,wD,↓X2,wA,seval,wE]
 refine Xf (fun i:Nat=>⟨16,[],[.any,.ref 0 0 0,.ref 1 0 0,.any,.any,.any,.any,.ref 4 0 0,.any,.any,.any,OQ W,.bool (Pf W (Ll 2 2) i),I i,.any,.any],[],[.con 0 25 (Xn (XW pa)),.con 0 25 (Xn (XW pb)),.con 0 8 (Xn (vC exT)),.row 0 8 (Xn (vC v0)),.con 0 29 (Xn (Qo (Ll 2 2))),.con 0 8 (Xn (vC ⟨4,4⟩)),.con 0 8 (Xn (vC ⟨4,4⟩))]⟩) (fun i=>i≤W.length) (fun i=>W.length - i) 0 (by omega)
  (Sub.trans (Qu 0 rfl) (Sub.trans (Qu 1 rfl) (Sub.trans (Da 4 _ rfl rfl (gr false)) (Sub.trans (Qu 4 rfl) (Xb rfl (by simp [Xh,Q4,I,Pf]) (by simp [Xi]) (by simp [XW,Qo,vC,Xj,Xw,X5,I,sg])))))) ?_
 intro i hi next
 by_cases hi2:i<W.length
 ·have x1:=fF W i
  have x2:=r7 W i
  have hm:=fW _ (Jr (d:=BT) hi2)
  have hs:=Wy W (Ll 2 2) i hi2
  generalize W.getD i BT=f at *
  have cs:=T9 f (Ll 2 2) hm (H7 2 2)
  generalize decide (f=Ll 2 2)=D at *
  generalize Pf W (Ll 2 2) i=B0 at *
  cases B0
  ·refine X0 1000 ?_
   simp (disch:=omega) only [x1,x2,Q4,Qo,List.cons_append,List.nil_append,↓Xl,wD,↓X2,wA,seval,wE]
   refine X1 cs rfl ?_
   simp (disch:=omega) only [Q4,↓Xl,wD,↓X2,wA,seval,wE]
   exact next (i+1) _ (by omega) (by omega) (Xb rfl (by simp [Xh,Q4,I,hs]) (by simp [Xi]) (by simp [XW,Qo,vC,Xj,Xw,X5,I,sg]))
  ·refine X0 1000 ?_
   simp (disch:=omega) only [x1,x2,Q4,Qo,List.cons_append,List.nil_append,↓Xl,wD,↓X2,wA,seval,wE]
   exact next (i+1) _ (by omega) (by omega) (Xb rfl (by simp [Xh,Q4,I,hs]) (by simp [Xi]) (by simp [XW,Qo,vC,Xj,Xw,X5,I,sg]))
 obtain rfl:i=W.length:=by omega
 refine X0 1000 ?_
 rw [hfd]
 simp (disch:=omega) only [Q4,XW,Qo,List.cons_append,List.nil_append,↓Xl,wD,↓X2,wA,seval,wE]
 refine X1 k1 rfl ?_
 simp (disch:=omega) only [XW,Qo,List.cons_append,List.nil_append,↓Xl,wD,↓X2,wA,seval,wE]
 refine X1 k2 rfl ?_
 simp (disch:=omega) only [XW,Qo,List.cons_append,List.nil_append,↓Xl,wD,↓X2,wA,seval,wE]
 refine X1 k3 rfl ?_
 simp (disch:=omega) only [XW,Qo,List.cons_append,List.nil_append,↓Xl,wD,↓X2,wA,seval,wE]
 refine X1 k4 rfl ?_
 simp (disch:=omega) only [↓Xl,wD,↓X2,wA,seval,wE]
 exact Xv rfl rfl (X3 _) rfl
theorem eo (g:Nat→Rat):∀ n,∃ k,k≤n∧ek g n=g k
 | 0=>⟨0,Nat.le_refl _,rfl⟩
 | n+1=>by
  obtain ⟨k,hk,e⟩:=eo g n
  unfold ek Yw
  split
  ·exact ⟨n+1,Nat.le_refl _,rfl⟩
  ·exact ⟨k,by omega,e⟩
theorem e8 (g:Nat→Rat):∀ n,∃ k,k≤n∧e6 g n=g k
 | 0=>⟨0,Nat.le_refl _,rfl⟩
 | n+1=>by
  obtain ⟨k,hk,e⟩:=e8 g n
  unfold e6 Yv
  split
  ·exact ⟨n+1,Nat.le_refl _,rfl⟩
  ·exact ⟨k,by omega,e⟩
theorem W7 {a b:List (Int×Int)} {f:FV} (h:(XC a b f 0).2.2=true):∃ c:V2,CM a b f f.M.toNat=c∧CJ a b f f.M.toNat=c∧∀ k,k≤f.M.toNat→AE a b f k=c:=by
 have ha:=fun k hk=>LD h k 0 hk (Nat.zero_le _)
 refine ⟨AE a b f 0,?_,?_,ha⟩
 ·unfold CM
  rw [V2.ext']
  obtain ⟨k,hk,e⟩:=eo (fun j=>(AE a b f j).x) f.M.toNat
  obtain ⟨l,hl,e2⟩:=eo (fun j=>(AE a b f j).y) f.M.toNat
  exact ⟨by rw [e,ha k hk],by rw [e2,ha l hl]⟩
 ·unfold CJ
  rw [V2.ext']
  obtain ⟨k,hk,e⟩:=e8 (fun j=>(AE a b f j).x) f.M.toNat
  obtain ⟨l,hl,e2⟩:=e8 (fun j=>(AE a b f j).y) f.M.toNat
  exact ⟨by rw [e,ha k hk],by rw [e2,ha l hl]⟩
theorem W8 {a b:PV} {f:FV} (h:A1 a b f 0=0):f.hi=f.lo∧(∀ k,k≤f.M.toNat→JB (a.rim.getD (xK a.rim.length f k) (0,0))=put f.turn f.lo (JB (b.rim.getD (yL b.rim.length f k) (0,0)))) ∧
  ∀ w:Rat,0≤w→XC a.rim b.rim f w=(f.lo.sub ⟨w,w⟩,f.lo.add ⟨w,w⟩,true):=by
 obtain ⟨h1,h2,h3,⟨h4,h5,h6⟩,h7⟩:=(EL a b f 0).1 h
 obtain ⟨c,e1,e2,e3⟩:=W7 h4
 obtain ⟨_,_,z1,_⟩:=ED h4
 have s1:c.sub ⟨0,0⟩=c:=by unfold V2.sub; rw [V2.ext']; exact ⟨by simp only; grind,by simp only; grind⟩
 have s2:c.add ⟨0,0⟩=c:=by unfold V2.add; rw [V2.ext']; exact ⟨by simp only; grind,by simp only; grind⟩
 rw [z1,e1] at h5
 rw [z1,e2] at h6
 simp only [s1,s2] at h5 h6
 refine ⟨by rw [← h5,← h6],fun k hk=>?_,fun w hw=>?_⟩
 ·have:=e3 k hk
  rw [← h5,← this]
  unfold AE put
  show JB (a.rim.getD (xK a.rim.length f k) (0,0))=(L4 f.turn (JB (b.rim.getD (yL b.rim.length f k) (0,0)))).add ((JB (a.rim.getD (xK a.rim.length f k) (0,0))).sub (L4 f.turn (JB (b.rim.getD (yL b.rim.length f k) (0,0)))))
  generalize L4 f.turn (JB (b.rim.getD (yL b.rim.length f k) (0,0)))=R
  generalize JB (a.rim.getD (xK a.rim.length f k) (0,0))=P
  unfold V2.add V2.sub
  rw [V2.ext']
  exact ⟨by simp only; grind,by simp only; grind⟩
 ·obtain ⟨_,_,z2,_⟩:=ED (RW h4 hw)
  rw [z2,e1,e2,h5]
theorem MK (p:PV) (t:Bool):WeakL ([I p.id,I p.home,Ck p.rim,KN p.worn,X6 p.marks,.bool false,.sl 0 0 (fun _=>.any) t,.bool false,.sl 0 0 (fun _=>.any) t,.bool p.light.pn,X6 p.light.pd,.bool p.light.qn,X6 p.light.qd,
 .bool p.heavy.pn,X6 p.heavy.pd,.bool p.heavy.qn,X6 p.heavy.qd,.bool p.strength.pn,X6 p.strength.pd,.bool p.strength.qn,X6 p.strength.qd,.bool p.rough.pn,X6 p.rough.pd,.bool p.rough.qn,X6 p.rough.qd]) (XW { p with tol:=RQ.of 0 }):=by
 obtain ⟨u1,u2,u3,u4,_⟩:=Ht t
 exact ⟨Weak.rfl' _,Weak.rfl' _,Weak.rfl' _,Weak.rfl' _,Weak.rfl' _,u1,u2,u3,u4,Weak.rfl' _,Weak.rfl' _,Weak.rfl' _,Weak.rfl' _,Weak.rfl' _,Weak.rfl' _,Weak.rfl' _,Weak.rfl' _,Weak.rfl' _,Weak.rfl' _,Weak.rfl' _,Weak.rfl' _,Weak.rfl' _,Weak.rfl' _,Weak.rfl' _,Weak.rfl' _,trivial⟩
theorem GP.tol' {p:PV} {t:Rat} (h:GP p t) (w:Rat) (hw:qb w≤20):GP { p with tol:=RQ.of w } w:=⟨⟨h.even.rim,h.even.worn,h.even.marks,h.even.near⟩,h.poly,rfl,hw⟩
theorem OD (l m:List Int) (more:Int) (hl:AL l) (hl2:l.length<9223372036854775808) (hm:AL m) (hm2:m.length<9223372036854775808) (hmo:Z8 more) :
  Fn Tryz.prog 8 [X6 l,X6 m,I more] (.bool true):=by
 obtain ⟨A,B,ta,tb,cP,gA',gB',sA,sB⟩:=WJ l m hl hl2 hm hm2
 have q0:=Zh
 have gA:=gA'.tol' 0 (by omega)
 have gB:=gB'.tol' 0 (by omega)
 have pA:=Hm gA'; have pB:=Hm gB'
 have wA':=MK A; have wB':=MK B
 have co:=OK _ _ gA gB
 have ho:=OL gA gB
 have z0:(0:Rat)+0=0:=by decide +kernel
 rw [z0] at co ho
 have hsh:∀ f∈I1 { A with tol:=RQ.of 0 } { B with tol:=RQ.of 0 } 0,f.A=0∧f.B=1∧(0≤f.EA∧f.EA<A.rim.length)∧(0≤f.EB∧f.EB<B.rim.length)∧1≤f.M∧f.M<A.rim.length∧f.M<B.rim.length:=fun f hf=>Hy (a:={ A with tol:=RQ.of 0 }) (b:={ B with tol:=RQ.of 0 }) (List.mem_filter.1 hf).1 pA.1 pB.1
 generalize I1 { A with tol:=RQ.of 0 } { B with tol:=RQ.of 0 } 0=L at *
 have lL:=ho.len
 have r1:=Iy { A with tol:=RQ.of 0 } gA.even.rim (CQ gA.even.near)
 have r2:=Iy { B with tol:=RQ.of 0 } gB.even.rim (CQ gB.even.near)
 have c9:=Gi more 9 hmo (by omega)
 have b9:=DG more 9 (by omega)
 have o9:=Je (K4 more 9) 4 ⟨by omega,by omega⟩ ⟨by omega,by omega⟩
 have n9:0≤Rat.divInt (K4 more 9) 4:=Rat.divInt_nonneg b9.1 (by decide)
 have q9:=Be (K4 more 9) 4 ⟨by omega,by omega⟩ ⟨by omega,by omega⟩
 generalize K4 more 9=m9 at *
 generalize Rat.divInt m9 4=w at *
 have gC:=gA'.tol' w (by omega)
 obtain ⟨A0,hA0⟩:∃ A0,A0={ A with tol:=RQ.of 0 }:=⟨_,rfl⟩
 obtain ⟨B0,hB0⟩:∃ B0,B0={ B with tol:=RQ.of 0 }:=⟨_,rfl⟩
 obtain ⟨C,hC⟩:∃ C,C={ A with tol:=RQ.of w }:=⟨_,rfl⟩
 have rA:A0.rim=A.rim:=by rw [hA0]
 have rB:B0.rim=B.rim:=by rw [hB0]
 have rC:C.rim=A.rim:=by rw [hC]
 have eC:XW C=[I A.id,I A.home,Ck A.rim,KN A.worn,X6 A.marks] ++ (qC w ++ [.bool A.light.pn,X6 A.light.pd,.bool A.light.qn,X6 A.light.qd,
  .bool A.heavy.pn,X6 A.heavy.pd,.bool A.heavy.qn,X6 A.heavy.qd,.bool A.strength.pn,X6 A.strength.pd,.bool A.strength.qn,X6 A.strength.qd,.bool A.rough.pn,X6 A.rough.pd,.bool A.rough.qn,X6 A.rough.qd]):=by rw [hC]; rfl
 rw [← hA0] at co ho r1 gA wA'
 rw [← hB0] at co ho r2 gB wB'
 rw [← hC] at gC
 rw [rA] at r1
 rw [rB] at r2
 clear hA0 hB0 hC
 have hP:(Xx A.rim).length=A.rim.length:=by simp [Xx]
 have hQ:(Xx B.rim).length=B.rim.length:=by simp [Xx]
 have bA:XS 3 (.con 0 25 (Xn (XW A0)))=True:=eq_true (fun j _=>X9 (Xg (XE A0) _))
 have bB:XS 3 (.con 0 25 (Xn (XW B0)))=True:=eq_true (fun j _=>X9 (Xg (XE B0) _))
 have bC:XS 3 (.con 0 25 (Xn (XW C)))=True:=eq_true (fun j _=>X9 (Xg (XE C) _))
 have bL:Kd 3 (OQ L)=True:=eq_true (X9 (Z6 L))
 have bP:Kd 3 (Xs (Xx A.rim))=True:=eq_true (X9 (Xk _))
 have bQ:Kd 3 (Xs (Xx B.rim))=True:=eq_true (X9 (Xk _))
 refine Fq Tryz.call8 Tryz.func8 22 [] [19,23,24,250000017,250000018,250000020,250000021] [] (by simp [X4,Xa]) (X0 1000 ?_)
 simp (disch:=omega) only [AS.start,↓Xl,wD,↓X2,wA,seval,wE]
 refine X1 cP rfl ?_
 simp (disch:=omega) only [JM,XW,↓Xl,wD,↓X2,wA,seval,wE]
 refine XV co ⟨Qi (wA' _),Qi (wB' _),trivial⟩ ?_
 simp (disch:=omega) only [XW,↓Xl,wD,↓X2,wA,seval,wE]
 refine XV r1 ⟨Qi (wA' _),trivial⟩ ?_
 simp (disch:=omega) only [XW,↓Xl,wD,↓X2,wA,seval,wE]
 refine XV r2 ⟨Qi (wB' _),trivial⟩ ?_
 simp (disch:=omega) only [↓Xl,wD,↓X2,wA,seval,wE]
 refine X1 c9 rfl ?_
 simp (disch:=omega) only [↓Xl,wD,↓X2,wA,seval,wE]
 refine X1 o9 rfl ?_
 simp (disch:=omega) only [qA,↓Xl,wD,↓X2,wA,seval,wE]
 refine Xf (fun i:Nat=>⟨22,[],[.any,.any,.any,.any,.any,.any,.any,.ref 0 0 0,.ref 1 0 0,OQ L,Xs (Xx A.rim),Xs (Xx B.rim),.ref 2 0 0,I i,.any,.any,.any,.any,.any,.any,.any,.any],[],[.con 0 25 (Xn (XW A0)),.con 0 25 (Xn (XW B0)),.con 0 25 (Xn (XW C))]⟩) (fun i=>i≤L.length) (fun i=>L.length - i) 0 (by omega)
  (Sub.trans (Da 0 _ rfl rfl (wA' _)) (Sub.trans (Da 1 _ rfl rfl (wB' _)) (Sub.trans (Qu 0 rfl) (Sub.trans (Qu 1 rfl) (Sub.trans (Qu 2 rfl) (Xb rfl (by simp [Xh,Q4,X7,I]) (by simp [Xi]) (by simp [eC,qC,Xj,Xw,X5,I,sg]))))))) ?_
 intro i hi next
 by_cases hi2:i<L.length
 rotate_left
 ·refine X0 1000 ?_
  simp (disch:=omega) only [Q4,↓Xl,wD,↓X2,wA,seval,wE]
  refine X1 SN rfl ?_
  simp (disch:=omega) only [↓Xl,wD,↓X2,wA,seval,wE]
  exact Xv rfl rfl (X3 _) rfl
 have hm':=Jr (d:=BT) hi2
 have hf:=ho.fine _ hm'
 have h2:=ho.ok _ hm'
 obtain ⟨_,_,⟨s1,s2⟩,⟨s3,s4⟩,s5,s6,s7⟩:=hsh _ hm'
 have x1:=fF L i
 have x2:=r7 L i
 generalize L.getD i BT=f at *
 obtain ⟨e1,e2,e3⟩:=W8 h2
 have e3:=e3 w n9
 have c3:=EC C B0 f gC.even gB.even (by have:=hf.turn; omega) gC.tol gB.tol (by omega) (by omega)
 rw [show w+0=w by grind,rC,rB,← rA,← rB,e3] at c3
 rw [rA,rB] at e2
 simp only at c3
 clear h2 e3
 obtain ⟨fA,fB,EA,EB,M,t,lo0,c⟩:=f
 simp only at e1 e2 s1 s2 s3 s4 s5 s6 s7 c3
 subst e1
 obtain ⟨hv1,hv2,_⟩:=hf
 simp only at hv1 hv2
 obtain ⟨ea,rfl⟩:=Int.eq_ofNat_of_zero_le s1
 obtain ⟨eb,rfl⟩:=Int.eq_ofNat_of_zero_le s3
 obtain ⟨N,rfl⟩:=Int.eq_ofNat_of_zero_le (show 0≤M by omega)
 have k0:=Hh c c (by unfold vm; omega) (by unfold vm; omega)
 rw [decide_eq_true rfl] at k0
 have hw2:vb ⟨w,w⟩≤3:=Nat.max_le.2 ⟨q9,q9⟩
 have v1:=Dd c ⟨w,w⟩; have v2:=Kk c ⟨w,w⟩
 have k1:=AU (c.add ⟨w,w⟩) (c.sub ⟨w,w⟩) (by unfold rm; omega) (by unfold rm; omega)
 have v3:=Kk (c.add ⟨w,w⟩) (c.sub ⟨w,w⟩)
 have o2:=C9 2 1 ⟨by omega,by omega⟩ ⟨by omega,by omega⟩
 have q2:=Be 2 1 ⟨by omega,by omega⟩ ⟨by omega,by omega⟩
 have k2:=JO w (Rat.divInt 2 1) (by unfold rm; omega) (by unfold rm; omega)
 have v4:=Qs w (Rat.divInt 2 1)
 have hD:((c.add ⟨w,w⟩).sub (c.sub ⟨w,w⟩)).x=w*Rat.divInt 2 1∧((c.add ⟨w,w⟩).sub (c.sub ⟨w,w⟩)).y=w*Rat.divInt 2 1:=by
  rw [show Rat.divInt 2 1=2 by decide +kernel]; unfold V2.add V2.sub; exact ⟨by simp only; grind,by simp only; grind⟩
 have vx:=QO ((c.add ⟨w,w⟩).sub (c.sub ⟨w,w⟩)); have vy:=QJ ((c.add ⟨w,w⟩).sub (c.sub ⟨w,w⟩))
 have k3:=MA ((c.add ⟨w,w⟩).sub (c.sub ⟨w,w⟩)).x (w*Rat.divInt 2 1) (by unfold rm; omega) (by unfold rm; omega)
 have k4:=MA ((c.add ⟨w,w⟩).sub (c.sub ⟨w,w⟩)).y (w*Rat.divInt 2 1) (by unfold rm; omega) (by unfold rm; omega)
 rw [decide_eq_true hD.1] at k3
 rw [decide_eq_true hD.2] at k4
 have k5:=Hd (c.sub ⟨w,w⟩) (c.add ⟨w,w⟩) (by unfold vm; omega) (by unfold vm; omega)
 have v5:=Dd (c.sub ⟨w,w⟩) (c.add ⟨w,w⟩)
 have o3:=C9 1 2 ⟨by omega,by omega⟩ ⟨by omega,by omega⟩
 have q3:=Be 1 2 ⟨by omega,by omega⟩ ⟨by omega,by omega⟩
 have k6:=G1 ((c.sub ⟨w,w⟩).add (c.add ⟨w,w⟩)) (Rat.divInt 1 2) (by unfold vm; omega) (by unfold vm; omega)
 have hS:((c.sub ⟨w,w⟩).add (c.add ⟨w,w⟩)).scale (Rat.divInt 1 2)=c:=by
  rw [show Rat.divInt 1 2=1 / 2 by decide +kernel]; unfold V2.scale V2.add V2.sub; rw [V2.ext']; exact ⟨by simp only; grind,by simp only; grind⟩
 rw [hS] at k6
 clear hD hS
 generalize (c.sub ⟨w,w⟩).add (c.add ⟨w,w⟩)=S at *
 generalize (c.add ⟨w,w⟩).sub (c.sub ⟨w,w⟩)=D at *
 generalize c.add ⟨w,w⟩=hi at *
 generalize c.sub ⟨w,w⟩=lo at *
 generalize w*Rat.divInt 2 1=w2 at *
 generalize Rat.divInt 2 1=r21 at *
 generalize Rat.divInt 1 2=r12 at *
 refine X0 1000 ?_
 simp (disch:=omega) only [x1,x2,Q4,Qo,↓Xl,wD,↓X2,wA,seval,wE]
 refine X1 k0 rfl ?_
 simp (disch:=omega) only [↓Xl,wD,↓X2,wA,seval,wE]
 refine Xf (fun k:Nat=>⟨22,[],[.any,.any,.any,.any,.any,.any,.any,.ref 0 0 0,.ref 1 0 0,OQ L,Xs (Xx A.rim),Xs (Xx B.rim),.ref 2 0 0,I i,.ref 3 0 0,.ref 4 0 0,I k,.any,.any,.any,.any,.any],[],[.con 0 25 (Xn (XW A0)),.con 0 25 (Xn (XW B0)),.con 0 25 (Xn (XW C)),.con 0 29 (Xn (Qo ⟨fA,fB,ea,eb,N,t,c,c⟩)),.con 0 16 (Xn (Lq t c))]⟩) (fun k=>k≤N+1) (fun k=>N+1 - k) 0 (by omega)
  (Sub.trans (Qu 3 rfl) (Sub.trans (Qu 4 rfl) (Xb rfl (by simp [Xh,Q4,X7,I]) (by simp [Xi]) (by rfl)))) ?_
 intro k hk nextk
 by_cases hk2:k≤N
 rotate_left
 ·obtain rfl:k=N+1:=by omega
  refine X0 1000 ?_
  simp (disch:=omega) only [Q4,X7,Qo,↓Xl,wD,↓X2,wA,seval,wE]
  refine X1 c3 rfl ?_
  simp (disch:=omega) only [Qo,↓Xl,wD,↓X2,wA,seval,wE]
  refine X1 k1 rfl ?_
  simp (disch:=omega) only [↓Xl,wD,↓X2,wA,seval,wE]
  refine X1 o2 rfl ?_
  simp (disch:=omega) only [eC,qC,List.cons_append,List.nil_append,↓Xl,wD,↓X2,wA,seval,wE]
  refine X1 k2 rfl ?_
  simp (disch:=omega) only [↓Xl,wD,↓X2,wA,seval,wE]
  refine X1 k3 rfl ?_
  simp (disch:=omega) only [↓Xl,wD,↓X2,wA,seval,wE]
  refine X1 k4 rfl ?_
  simp (disch:=omega) only [↓Xl,wD,↓X2,wA,seval,wE]
  refine X1 k5 rfl ?_
  simp (disch:=omega) only [↓Xl,wD,↓X2,wA,seval,wE]
  refine X1 o3 rfl ?_
  simp (disch:=omega) only [↓Xl,wD,↓X2,wA,seval,wE]
  refine X1 k6 rfl ?_
  simp (disch:=omega) only [Qo,↓Xl,wD,↓X2,wA,seval,wE]
  refine X1 k0 rfl ?_
  simp (disch:=omega) only [↓Xl,wD,↓X2,wA,seval,wE]
  exact next (i+1) _ (by omega) (by omega) (XA (m:=3) (Nat.zero_le _) rfl (by simp [Xh,Q4,X7,I]) (by simp [Xi]) (by rw [eC]; rfl) (by simp [Xz,bL,bP,bQ]) (by simp [Xz]) (by simp [bA,bB,bC]))
 clear next
 have he:=e2 k (by show k≤((N:Nat):Int).toNat; omega)
 have hx:=UW A.rim.length ⟨fA,fB,ea,eb,N,t,c,c⟩ k (by omega)
 have hy:=mB B.rim.length ⟨fA,fB,ea,eb,N,t,c,c⟩ k (by omega)
 have ex:=Ry A.rim.length ⟨fA,fB,ea,eb,N,t,c,c⟩ k (by omega)
 have ey:=gz B.rim.length ⟨fA,fB,ea,eb,N,t,c,c⟩ k (by omega)
 generalize xK A.rim.length ⟨fA,fB,ea,eb,N,t,c,c⟩ k=X at *
 generalize yL B.rim.length ⟨fA,fB,ea,eb,N,t,c,c⟩ k=Y at *
 simp only at he ex ey
 have rx:((ea:Int)+(k:Int)).tmod (A.rim.length:Int)=(X:Nat):=by rw [Int.tmod_eq_emod_of_nonneg (by omega),ex]
 have ry:((eb:Int)+1 - (k:Int)+2*(B.rim.length:Int)).tmod (B.rim.length:Int)=(Y:Nat):=by
  rw [Int.tmod_eq_emod_of_nonneg (by omega),Int.add_mul_emod_self_right,ey]
 have wx:IntKind.i64.wrap ((ea:Int)+(k:Int))=(ea:Int)+(k:Int):=by rw [IntKind.wrap_i64]; omega
 have wy1:IntKind.i64.wrap ((eb:Int)+1)=(eb:Int)+1:=by rw [IntKind.wrap_i64]; omega
 have wy2:IntKind.i64.wrap ((eb:Int)+1 - (k:Int))=(eb:Int)+1 - (k:Int):=by rw [IntKind.wrap_i64]; omega
 have wy3:IntKind.i64.wrap (2*(B.rim.length:Int))=2*(B.rim.length:Int):=by rw [IntKind.wrap_i64]; omega
 have wy4:IntKind.i64.wrap ((eb:Int)+1 - (k:Int)+2*(B.rim.length:Int))=(eb:Int)+1 - (k:Int)+2*(B.rim.length:Int):=by rw [IntKind.wrap_i64]; omega
 have p1:=fun j h=>Jm vC 8 v0 (Xx A.rim) X j h
 have p2:=Ju vC 8 v0 (Xx A.rim) X (by omega)
 have p3:=fun j h=>Jm vC 8 v0 (Xx B.rim) Y j h
 have p4:=Ju vC 8 v0 (Xx B.rim) Y (by omega)
 simp only [NB] at p1 p2 p3 p4
 have sp:=Kf gA'.even.near X
 have sq:=Kf gB'.even.near Y
 have m1:=f9 t c (JB (B.rim.getD Y (0,0))) (by omega) (by omega) (by omega)
 rw [← he] at m1
 generalize JB (A.rim.getD X (0,0))=PA at *
 generalize JB (B.rim.getD Y (0,0))=PB at *
 have m2:=Hh PA PA (by unfold vm; omega) (by unfold vm; omega)
 rw [decide_eq_true rfl] at m2
 refine X0 1000 ?_
 simp (disch:=omega) only [rx,ry,wx,wy1,wy2,wy3,wy4,p1,p2,p3,p4,hP,hQ,X7,Qo,Lq,↓Xl,wD,↓X2,wA,seval,wE]
 refine X1 m1 rfl ?_
 simp (disch:=omega) only [rx,ry,wx,wy1,wy2,wy3,wy4,p1,p2,p3,p4,hP,hQ,X7,Qo,Lq,↓Xl,wD,↓X2,wA,seval,wE]
 refine X1 m2 rfl ?_
 simp (disch:=omega) only [↓Xl,wD,↓X2,wA,seval,wE]
 exact nextk (k+1) _ (by omega) (by omega) (Xb rfl (by simp [Xh,Q4,X7,hP,hQ,I]) (by simp [Xi]) (by rfl))
end
end Go.Ab.N
