/- Contracts of functions of these chapters, for every argument that fits, and what they need. -/
import Derived.Test.YtefjhgcndhepeaaGreatC13
import Derived.Test.YtefjhgcndhepeaaGreatC14
set_option linter.unusedSimpArgs false
set_option linter.unusedVariables false
open Nat renaming reducePow → Y1, reduceLT → Y2, reduceLeDiff → Y3, reduceEqDiff → Y4, reduceAdd → Y5, reduceMul → Y6, reduceSub → Y7, reduceBEq → Y8, reduceDiv → Y9, reduceMod → YA
namespace Go.Ab.N
open Go Go.RowKit Go.Proofs
noncomputable section
set_option maxRecDepth 10000
set_option maxHeartbeats 4000000
open Classical
theorem Sg (L:List FV) (hL:L.length<1000000) (hf:∀ f∈L,f.fine):Fn Tryz.prog 51 [HF L,HF L] (.bool true):=by
 refine Fq Tryz.call51 Tryz.func51 6 [] [6] [] (by simp [KS]) (X0 1000 ?_)
 simp (disch:=omega) only [AS.start,XI,↓Xl,wD,↓X2,wA,seval,wE]
 refine Xg (fun i:Nat=>⟨6,[],[HF L,HF L,.any,.any,.bool false,I i],[],[]⟩) (fun i=>i≤L.length) (fun i=>L.length - i) 0 (by omega)
  (Xa rfl (by simp [Xh,XI,I]) (by simp [Xi]) rfl) ?_
 intro i hi next
 by_cases hi2:i<L.length
 rotate_left
 ·refine X0 1000 ?_
  simp (disch:=omega) only [XI,↓Xl,wD,↓X2,wA,seval,wE]
  exact Xu rfl rfl (X3 _) rfl
 have hm:=hf _ (QE (d:=ZG) hi2)
 have x1:=fF L i
 have x2:=nW L i
 generalize L.getD i ZG=f at *
 have c:=Lo f f hm hm
 rw [decide_eq_true rfl] at c
 refine X0 1000 ?_
 simp (disch:=omega) only [x1,x2,XI,XW,List.cons_append,List.nil_append,↓Xl,wD,↓X2,wA,seval,wE]
 refine X1 c rfl ?_
 simp (disch:=omega) only [XI,↓Xl,wD,↓X2,wA,seval,wE]
 exact next (i+1) _ (by omega) (by omega) (Xa rfl (by simp [Xh,XI,I]) (by simp [Xi]) rfl)
theorem Sw {R:List (Int×Int)} (hn:QV R) (k:Nat):((0≤(Gt R k).1*(Gt R k).1∧(Gt R k).1*(Gt R k).1≤17179869184)∧(0≤(Gt R k).2*(Gt R k).2∧(Gt R k).2*(Gt R k).2≤17179869184))∧0≤SW R k∧SW R k≤34359738368:=by
 have h0:=Dt hn k
 unfold SW
 generalize Gt R k=D at *
 have key:∀ x:Int,-131072≤x∧x≤131072→0≤x*x∧x*x≤17179869184:=fun x hx=>by
  rcases Int.le_total 0 x with h | h
  ·exact ⟨Int.mul_nonneg h h,Int.mul_le_mul hx.2 hx.2 h (by omega)⟩
  ·have:=Int.mul_le_mul (show -x≤131072 by omega) (show -x≤131072 by omega) (by omega) (by omega)
   rw [Int.neg_mul_neg] at this
   exact ⟨Int.mul_nonneg_of_nonpos_of_nonpos h h,this⟩
 have h1:=key D.1 h0.1
 have h2:=key D.2 h0.2
 omega
def qU (a b:PV) (f:FV) (k:Nat):Int:=if a.marks.getD (xK a.rim.length f k) 0≠0∧a.marks.getD (xK a.rim.length f k) 0=b.marks.getD (yK b.rim.length f k) 0 then 1000 else 0
def Si (a b:PV) (f:FV):Nat→Int
 | 0=>0
 | k+1=>Si a b f k+SW a.rim (xK a.rim.length f k)+qU a b f k
def GU (a b:PV) (f:FV):Int:=if AM a.rim.length b.rim.length f then Si a b f f.M.toNat else 0
theorem NB {a:PV} (b:PV) (f:FV) (hn:QV a.rim):∀ k:Nat,0≤Si a b f k∧Si a b f k≤34359739368*k
 | 0=>by simp [Si]
 | k+1=>by
  have ih:=NB b f hn k
  have h:=(Sw hn (xK a.rim.length f k)).2
  have h2:0≤qU a b f k∧qU a b f k≤1000:=by unfold qU; split <;> omega
  simp only [Si]
  omega
theorem YI (a b:PV) (f:FV) (ha:a.even) (hb:b.even):Fn Tryz.prog 62 [QW a,QW b,Zc f] (I (GU a b f)):=by
 have la:=ha.rim; have lb:=hb.rim
 have cs:=Dy a b f la lb
 obtain ⟨V,hV⟩:∃ V,V=GU a b f:=⟨_,rfl⟩
 rw [← hV]
 have fin:∀ {s:AS} {v:Int},s.get 6=I v→v=V→RetOk (QR Tryz.prog Tryz.f62 [] [] (I V)) s:=fun h e=>Xu rfl h (X9 _) (by rw [e])
 by_cases hf:AM a.rim.length b.rim.length f
 rotate_left
 ·rw [decide_eq_false hf] at cs
  refine Fq Tryz.call62 Tryz.func62 11 [19,20,21] [] [] (by simp [Xz,Qg]) (X0 1000 ?_)
  simp (disch:=omega) only [AS.start,QW,XH,Zc,XW,↓Xl,wD,↓X2,wA,seval,wE]
  refine X1 cs rfl ?_
  simp (disch:=omega) only [↓Xl,wD,↓X2,wA,seval,wE]
  exact fin rfl (by rw [hV]; unfold GU; rw [if_neg hf])
 rw [decide_eq_true hf] at cs
 have ce:=FC a b f hf la lb
 have hVe:V=Si a b f f.M.toNat:=by rw [hV]; unfold GU; rw [if_pos hf]
 obtain ⟨⟨s1,s2⟩,⟨s3,s4⟩,s5,s6,s7⟩:=hf
 obtain ⟨N,hN⟩:∃ N:Nat,f.M=N:=⟨f.M.toNat,by omega⟩
 rw [hN,Int.toNat_natCast] at hVe
 obtain ⟨L,hL⟩:∃ L,L=Du a.rim.length b.rim.length f:=⟨_,rfl⟩
 have hlen:L.length=N:=by rw [hL,Bt,hN]; rfl
 have hat:∀ k,k<N→L.getD k (0,0)=((xK a.rim.length f k:Int),(yK b.rim.length f k:Int)):=fun k hk=>by rw [hL]; exact Et _ _ _ _ (by omega)
 rw [← hL] at ce
 clear hL
 have ba:XK 3 (.row 0 25 (Xp (XH a)))=True:=eq_true (XE (XA a))
 have bb:XK 3 (.row 0 25 (Xp (XH b)))=True:=eq_true (XE (XA b))
 have bf:XK 3 (.row 0 29 (Xp (XW f)))=True:=eq_true (XE (XU f))
 have bL:JM 3 (Dj L)=True:=eq_true (X6 (QF _))
 refine Fq Tryz.call62 Tryz.func62 11 [19,20,21] [] [] (by simp [Xz,Qg]) (X0 1000 ?_)
 simp (disch:=omega) only [AS.start,QW,XH,Zc,XW,↓Xl,wD,↓X2,wA,seval,wE]
 refine X1 cs rfl ?_
 simp (disch:=omega) only [XH,XW,↓Xl,wD,↓X2,wA,seval,wE]
 refine X1 ce rfl ?_
 simp (disch:=omega) only [Xf,hlen,↓Xl,wD,↓X2,wA,seval,wE]
 refine Xg (fun k:Nat=>⟨11,[19,20,21],[.any,.any,.any,.ref 0 0 0,.ref 1 0 0,.ref 2 0 0,.any,I (Si a b f k),.any,.any,.any],[(19,Dj L),(20,I N),(21,I k)],[.row 0 25 (Xp (XH a)),.row 0 25 (Xp (XH b)),.row 0 29 (Xp (XW f))]⟩) (fun k=>k≤N) (fun k=>N - k) 0 (by omega)
  (Xa rfl (by simp [Xh,I,Si]) (by simp [Xi,Xw,Xf,hlen,I]) (by simp [XH,XW,Xf,Xo,X4,I,sg])) ?_
 intro k hk next
 by_cases hk2:k<N
 rotate_left
 ·obtain rfl:k=N:=by omega
  refine X0 1000 ?_
  simp (disch:=omega) only [↓Xl,wD,↓X2,wA,seval,wE]
  exact fin rfl hVe.symm
 have hx:=SS a.rim.length f k (by omega)
 have hy:=jd b.rim.length f k (by omega)
 have cq:=Fd a (xK a.rim.length f k) hx la ha.near
 have bq:=(Sw ha.near (xK a.rim.length f k)).2
 have bn:=NB b f ha.near k
 have v1:=mu L k
 rw [hat k hk2] at v1
 have hnext:Si a b f (k+1)=Si a b f k+SW a.rim (xK a.rim.length f k)+qU a b f k:=rfl
 have hsc:qU a b f k=if a.marks.getD (xK a.rim.length f k) 0≠0∧a.marks.getD (xK a.rim.length f k) 0=b.marks.getD (yK b.rim.length f k) 0 then 1000 else 0:=rfl
 have ea:=ha.marks; have eb:=hb.marks
 generalize SW a.rim (xK a.rim.length f k)=Q at *
 generalize xK a.rim.length f k=X at *
 generalize yK b.rim.length f k=Y at *
 have w1:IntKind.i64.wrap (Si a b f k+Q)=Si a b f k+Q:=by rw [IntKind.wrap_i64]; omega
 have w2:IntKind.i64.wrap (Si a b f k+Q+1000)=Si a b f k+Q+1000:=by rw [IntKind.wrap_i64]; omega
 have c0:∀ c,qU a b f k=c→Si a b f (k+1)=Si a b f k+Q+c:=fun c hc=>by rw [hnext,hc]
 have t1:(1:Int).toNat=1:=rfl
 by_cases h0:a.marks.getD X 0=0
 ·have e:=c0 0 (by rw [hsc,if_neg (fun h=>h.1 h0)])
  rw [Int.add_zero] at e
  refine X0 1000 ?_
  simp (disch:=omega) only [v1,w1,hlen,Xf,XH,XW,X4,↓Xl,wD,↓X2,wA,seval,wE]
  refine X1 cq rfl ?_
  simp (disch:=omega) only [v1,w1,hlen,eq_true h0,Xf,XH,XW,X4,↓Xl,wD,↓X2,wA,seval,wE]
  exact next (k+1) _ (by omega) (by omega) (Xv (m:=3) (Nat.zero_le _) rfl (by simp [Xh,I,e]) (by simp [Xi,Xw,Xf,hlen,I]) (by simp [XH,XW,Xf,Xo,X4,I,sg]) (by simp [Xy]) (by simp [Xy,bL]) (by simp [ba,bb,bf]))
 by_cases h1:a.marks.getD X 0=b.marks.getD Y 0
 ·have e:=c0 1000 (by rw [hsc,if_pos ⟨h0,h1⟩])
  refine X0 1000 ?_
  simp (disch:=omega) only [v1,w1,hlen,Xf,XH,XW,X4,↓Xl,wD,↓X2,wA,seval,wE]
  refine X1 cq rfl ?_
  simp (disch:=omega) only [v1,w1,w2,t1,hlen,eq_false h0,eq_true h1,Xf,XH,XW,X4,↓Xl,wD,↓X2,wA,seval,wE]
  exact next (k+1) _ (by omega) (by omega) (Xv (m:=3) (Nat.zero_le _) rfl (by simp [Xh,I,e]) (by simp [Xi,Xw,Xf,hlen,I]) (by simp [XH,XW,Xf,Xo,X4,I,sg]) (by simp [Xy]) (by simp [Xy,bL]) (by simp [ba,bb,bf]))
 ·have e:=c0 0 (by rw [hsc,if_neg (fun h=>h1 h.2)])
  rw [Int.add_zero] at e
  refine X0 1000 ?_
  simp (disch:=omega) only [v1,w1,hlen,Xf,XH,XW,X4,↓Xl,wD,↓X2,wA,seval,wE]
  refine X1 cq rfl ?_
  simp (disch:=omega) only [v1,w1,w2,t1,hlen,eq_false h0,eq_false h1,Xf,XH,XW,X4,↓Xl,wD,↓X2,wA,seval,wE]
  exact next (k+1) _ (by omega) (by omega) (Xv (m:=3) (Nat.zero_le _) rfl (by simp [Xh,I,e]) (by simp [Xi,Xw,Xf,hlen,I]) (by simp [XH,XW,Xf,Xo,X4,I,sg]) (by simp [Xy]) (by simp [Xy,bL]) (by simp [ba,bb,bf]))
end
end Go.Ab.N
namespace Go.Ab.N
open Go Go.RowKit Go.Proofs
set_option maxRecDepth 10000
set_option maxHeartbeats 4000000
def qg (a b c p:V2):Bool:=decide (0≤Je a b p) && decide (0≤Je b c p) && decide (0≤Je c a p)
def fz (L:List V2) (a b c k:Nat):Bool:=decide (k=a) || decide (k=c) || decide (k=b) || !qg (L.getD a v0) (L.getD b v0) (L.getD c v0) (L.getD k v0)
def kX (L:List V2) (R:List Nat) (p:Nat):Bool:=decide (0<GV L R p) && (List.range R.length).all fun j=>fz L (nr R (p+R.length - 1)) (R.getD p 0) (nr R (p+R.length+1)) (R.getD j 0)
theorem fS (a b c p:V2):qg a b c p=true↔bF a b c p:=by
 unfold qg bF
 simp only [Bool.and_eq_true,decide_eq_true_eq,and_assoc]
theorem MW (L:List V2) (a b c k:Nat):fz L a b c k=true↔AD L a b c k:=by
 unfold fz AD
 rw [← fS]
 simp only [Bool.or_eq_true,decide_eq_true_eq,or_assoc,Bool.not_eq_true',Bool.not_eq_true]
open Classical in
theorem kY (L:List V2) (R:List Nat) (p:Nat):AR L R p=kX L R p:=by
 unfold AR kX
 rw [Bool.eq_iff_iff,decide_eq_true_eq,Bool.and_eq_true,decide_eq_true_eq,List.all_eq_true]
 refine and_congr_right fun _=>⟨fun h j hj=>(MW _ _ _ _ _).2 (h j (List.mem_range.1 hj)),fun h j hj=>(MW _ _ _ _ _).1 (h j (List.mem_range.2 hj))⟩
def Vk (L:List V2) (R:List Nat):Nat:=(List.range (R.length - 1)).findIdx (kX L R)
theorem ez (L:List V2) (R:List Nat):FB L R=Vk L R:=by
 unfold FB Vk
 rw [show AR L R=kX L R from funext (kY L R)]
def fo (L:List V2) (R:List Nat):Nat:=(List.range R.length).findIdx fun p=>decide (GV L R p=0)
theorem fp (L:List V2) (R:List Nat):KG L R=fo L R:=by
 rfl
def kI (L:List V2):Nat→List Nat→List Nat
 | 0,R=>R
 | f+1,R=>if 3<R.length∧fo L R<R.length then kI L f (R.eraseIdx (fo L R)) else R
theorem Vb (L:List V2):∀ (f:Nat) (R:List Nat),KZ L f R=kI L f R
 | 0,_=>rfl
 | f+1,R=>by
  unfold KZ kI
  rw [fp,Vb L f]
def kS (L:List V2):Nat→List Nat→List (Nat×Nat×Nat)
 | 0,R=>[(R.getD 0 0,R.getD 1 0,R.getD 2 0)]
 | f+1,R=>if 3<R.length then Ez R (Vk L R) :: kS L f (kI L (R.length - 1) (R.eraseIdx (Vk L R))) else [(R.getD 0 0,R.getD 1 0,R.getD 2 0)]
theorem Vf (L:List V2):∀ (f:Nat) (R:List Nat),Bp L f R=kS L f R
 | 0,_=>rfl
 | f+1,R=>by
  unfold Bp kS BL
  rw [ez,Vb,Vf L f]
def O4 (p:PV) (t c:V2):List (List V2):=((kS (XB p.rim) p.rim.length (List.range p.rim.length)).map (aV (XB p.rim))).map (Kl t c)
theorem MH (p:PV) (t c:V2):Kb p t c=O4 p t c:=by
 unfold Kb O4 K3 BK
 rw [Vf,show (XB p.rim).length=p.rim.length by simp [XB]]
def sW (n:V2) (A B:List V2) (e:Rat):Bool:=decide (e*Z5 n≤F6 n A B)
def gJ (A B:List V2) (e:Rat):Bool:=(ZF A B).any fun d=>sW d A B e
def p8 (A B:List (List V2)) (e:Rat):Bool:=A.all fun x=>B.all fun y=>gJ x y e
open Classical in
theorem gK (A B:List V2) (e:Rat):(Zl A B e).2=gJ A B e:=by
 unfold Zl gJ
 rw [Bool.eq_iff_iff,IR,List.any_eq_true]
 unfold Gd sW
 simp only [decide_eq_true_eq]
theorem Pa {α:Type} (l:List α) (d:α) (p:α→Bool):(∀ i,i<l.length→p (l.getD i d)=true)↔l.all p=true:=by
 rw [List.all_eq_true]
 constructor
 ·intro h x hx
  obtain ⟨i,hi,rfl⟩:=List.getElem_of_mem hx
  have:=h i hi
  rwa [List.getD_eq_getElem?_getD,List.getElem?_eq_getElem hi] at this
 ·intro h i hi
  rw [List.getD_eq_getElem?_getD,List.getElem?_eq_getElem hi]
  exact h _ (List.getElem_mem hi)
open Classical in
theorem jO (A B:List (List V2)) (e:Rat):HD A B e=p8 A B e:=by
 unfold HD p8
 rw [Bool.eq_iff_iff,decide_eq_true_eq,← Pa A []]
 refine forall_congr' fun i=>forall_congr' fun _=>?_
 unfold Ip
 rw [decide_eq_true_eq,← Pa B []]
 refine forall_congr' fun k=>forall_congr' fun _=>?_
 unfold Ze
 rw [gK]
def dU (a b:PV) (f:FV) (e:Rat):Bool:=p8 (O4 a KH v0) (O4 b f.turn (FP f)) (-e)
theorem Ym (a b:PV) (f:FV) (e:Rat):KK a b f e=dU a b f e:=by
 unfold KK dU
 rw [jO,MH,MH]
instance (n m:Nat) (f:FV):Decidable (AM n m f):=by unfold AM; infer_instance
instance (t:V2):Decidable (AZ t):=by unfold AZ; infer_instance
def rr (g:Nat→Rat):Nat→Rat
 | 0=>g 0
 | k+1=>if rr g k<g (k+1) then g (k+1) else rr g k
def rq (g:Nat→Rat):Nat→Rat
 | 0=>g 0
 | k+1=>if g (k+1)<rq g k then g (k+1) else rq g k
theorem Uc (g:Nat→Rat):∀ k,md g k=rr g k
 | 0=>rfl
 | k+1=>by
  unfold md rr VC
  rw [Uc g k]
theorem Ub (g:Nat→Rat):∀ k,m9 g k=rq g k
 | 0=>rfl
 | k+1=>by
  unfold m9 rq VA
  rw [Ub g k]
def tg (a b:List (Int×Int)) (f:FV) (k:Nat):V2:=⟨rr (fun j=>(Zh a b f j).x) k,rr (fun j=>(Zh a b f j).y) k⟩
def tf (a b:List (Int×Int)) (f:FV) (k:Nat):V2:=⟨rq (fun j=>(Zh a b f j).x) k,rq (fun j=>(Zh a b f j).y) k⟩
theorem qq (a b:List (Int×Int)) (f:FV) (k:Nat):Am a b f k=tg a b f k:=by unfold Am tg; rw [Uc,Uc]
theorem q9 (a b:List (Int×Int)) (f:FV) (k:Nat):Ak a b f k=tf a b f k:=by unfold Ak tf; rw [Ub,Ub]
def UX (a b:List (Int×Int)) (f:FV) (c:V2):Bool :=
 decide (AM a.length b.length f) && decide (AZ f.turn) && decide ((tg a b f f.M.toNat).x=c.x) && decide ((tg a b f f.M.toNat).y=c.y) && decide ((tf a b f f.M.toNat).x=c.x) && decide ((tf a b f f.M.toNat).y=c.y)
theorem MA {a b:List (Int×Int)} {f:FV} {c:V2} (h:UX a b f c=true):XG a b f 0=(c,c,true):=by
 unfold UX at h
 simp only [Bool.and_eq_true,decide_eq_true_eq] at h
 obtain ⟨⟨⟨⟨⟨h1,h2⟩,h3⟩,h4⟩,h5⟩,h6⟩:=h
 have e1:Am a b f f.M.toNat=c:=by rw [qq,V2.ext']; exact ⟨h3,h4⟩
 have e2:Ak a b f f.M.toNat=c:=by rw [q9,V2.ext']; exact ⟨h5,h6⟩
 unfold XG
 rw [if_pos ⟨h1,h2⟩]
 simp only [e1,e2]
 have z1:c.sub ⟨0,0⟩=c:=by unfold V2.sub; rw [V2.ext']; exact ⟨by simp only; grind,by simp only; grind⟩
 have z2:c.add ⟨0,0⟩=c:=by unfold V2.add; rw [V2.ext']; exact ⟨by simp only; grind,by simp only; grind⟩
 rw [z1,z2,if_neg (fun h=>by rcases h with h | h <;> exact absurd h (Rat.lt_irrefl))]
theorem gv (g:Nat→Rat):∀ n k,k≤n→g k≤md g n
 | 0,k,h=>by obtain rfl:k=0:=by omega
         exact Rat.le_refl
 | n+1,k,h=>by
  unfold md VC
  by_cases hk:k=n+1
  ·subst hk
   split
   ·exact Rat.le_refl
   ·rename_i h; exact Rat.not_lt.1 h
  ·have ih:=gv g n k (by omega)
   split
   ·rename_i h; exact Rat.le_trans ih (Rat.le_of_lt h)
   ·exact ih
theorem go (g:Nat→Rat):∀ n k,k≤n→m9 g n≤g k
 | 0,k,h=>by obtain rfl:k=0:=by omega
         exact Rat.le_refl
 | n+1,k,h=>by
  unfold m9 VA
  by_cases hk:k=n+1
  ·subst hk
   split
   ·exact Rat.le_refl
   ·rename_i h; exact Rat.not_lt.1 h
  ·have ih:=go g n k (by omega)
   split
   ·rename_i h; exact Rat.le_trans (Rat.le_of_lt h) ih
   ·exact ih
theorem WI {a b:List (Int×Int)} {f:FV} (h:(XG a b f 0).2.2=true) (i j:Nat) (hi:i≤f.M.toNat) (hj:j≤f.M.toNat):Zh a b f i=Zh a b f j:=by
 obtain ⟨_,_,_,h1,h2⟩:=dh h
 have z:∀ x y:Rat,x - 0≤y+0→x≤y:=fun x y h=>by grind
 have h1:=z _ _ h1
 have h2:=z _ _ h2
 have t:∀ (g:Nat→Rat),md g f.M.toNat≤m9 g f.M.toNat→g i=g j:=fun g hg=>by
  have a1:=gv g _ i hi; have a2:=gv g _ j hj; have a3:=go g _ i hi; have a4:=go g _ j hj
  exact Rat.le_antisymm (Rat.le_trans a1 (Rat.le_trans hg a4)) (Rat.le_trans a2 (Rat.le_trans hg a3))
 rw [V2.ext']
 exact ⟨t (fun k=>(Zh a b f k).x) h1,t (fun k=>(Zh a b f k).y) h2⟩
def Dg:List (Int×Int):=[(0,0),(2,0),(3,2),(2,4),(0,4)]
def Dh:List (Int×Int):=[(0,0),(2,0),(1,2),(2,4),(0,4)]
def exA:PV:=C8 Dg
def exB:PV:=C8 Dh
def exT:V2:=⟨-1,0⟩
def l6:FV:=⟨0,1,1,2,2,exT,v0,v0⟩
def Mo (eb m:Int):FV:=⟨0,1,1,eb,m,exT,⟨4,4⟩,⟨4,4⟩⟩
theorem Nn (R:List (Int×Int)) (h:DN (XB R)=true) (hn:∀ c∈R,(-65536≤c.1∧c.1≤65536)∧(-65536≤c.2∧c.2≤65536)) (hl:R.length<1000000):GP (C8 R) 0 :=
 ⟨⟨hl,by simp [C8],by simp [C8],hn⟩,DO _ h,rfl,by have:=A4; omega⟩
theorem exA_gp:GP exA 0:=Nn Dg (by decide +kernel) (by decide) (by decide)
theorem exB_gp:GP exB 0:=Nn Dh (by decide +kernel) (by decide) (by decide)
theorem dk {a b t:V2} (h:Q7 a a≠0∧Q7 a a=Q7 b b∧Q7 a b / Q7 a a=t.x∧Qo a b / Q7 a a=t.y):J4 a b=(t,0):=by
 obtain ⟨h1,h2,h3,h4⟩:=h
 unfold J4
 rw [if_neg (by rw [← h2]; simp [h1]),if_pos h2]
 rw [Prod.mk.injEq,V2.ext']
 exact ⟨⟨h3,h4⟩,rfl⟩
theorem MC {a b:List (Int×Int)} {i j:Int} {t:V2} (h:Ra a.length b.length i j) (h2:Q7 (KI (AU b j.toNat)) (KI (AU b j.toNat))≠0∧Q7 (KI (AU b j.toNat)) (KI (AU b j.toNat))=Q7 (AU a i.toNat) (AU a i.toNat) ∧
  Q7 (KI (AU b j.toNat)) (AU a i.toNat) / Q7 (KI (AU b j.toNat)) (KI (AU b j.toNat))=t.x∧Qo (KI (AU b j.toNat)) (AU a i.toNat) / Q7 (KI (AU b j.toNat)) (KI (AU b j.toNat))=t.y):Qb a b i j=(t,true):=by
 unfold Qb
 rw [if_pos h,dk h2]; rfl
theorem MB {a b:List (Int×Int)} {i j:Int} (h2:Q7 (KI (AU b j.toNat)) (KI (AU b j.toNat))≠Q7 (AU a i.toNat) (AU a i.toNat)):Qb a b i j=(v0,false):=by
 unfold Qb
 split
 ·obtain ⟨e1,e2⟩:=Ft _ _ h2
  rw [e1,decide_eq_false e2]
 ·rfl
theorem TU:Qb Dg Dh 1 2=(exT,true):=MC (by unfold Ra; decide) (by decide +kernel)
theorem pZ:Qb Dg Dh 0 2=(v0,false):=MB (by decide +kernel)
theorem ff:XG Dg Dh l6 0=(⟨4,4⟩,⟨4,4⟩,true):=MA (by decide +kernel)
theorem Yz (m:Int) (h:m=1∨m=2):XG Dg Dh (Mo 2 m) 0=(⟨4,4⟩,⟨4,4⟩,true):=by
 rcases h with rfl | rfl <;> exact MA (by decide +kernel)
theorem gR {a b:PV} {f:FV} (h:((List.range f.M.toNat).all fun k=>!Pl a b f k)=true):Ey a b f:=fun k hk=>by
 have:=List.all_eq_true.1 h k (List.mem_range.2 hk)
 simpa using this
theorem IQ (m:Int) (h:m=1∨m=2):Bn exA exB (Mo 2 m) 0=0:=by
 rw [HS]
 refine ⟨?_,?_,⟨0,?_,?_,?_⟩,?_,?_⟩
 ·rcases h with rfl | rfl <;> decide
 ·rcases h with rfl | rfl <;> exact gR (by decide +kernel)
 ·rcases h with rfl | rfl <;> decide
 ·rcases h with rfl | rfl <;> exact congrArg (·.2) TU
 ·rcases h with rfl | rfl <;> exact congrArg (·.1) TU
 ·have:=Yz m h
  show (XG Dg Dh (Mo 2 m) 0).2.2=true∧(XG Dg Dh (Mo 2 m) 0).1=_∧(XG Dg Dh (Mo 2 m) 0).2.1=_
  rw [this]; exact ⟨rfl,rfl,rfl⟩
 ·rw [Ym]
  rcases h with rfl | rfl <;> decide +kernel
theorem fi:Bn exA exB (Mo 3 2) 0=21:=by
 unfold Bn
 rw [if_pos (by decide),if_pos (gR (by decide +kernel)),if_neg]
 rintro ⟨k,hk,h1,h2⟩
 have hk:k<2:=hk
 have e0:Qb Dg Dh 1 3=(v0,false):=MB (by decide +kernel)
 have e1:Qb Dg Dh 2 2=(⟨-3 / 5,-4 / 5⟩,true):=MC (by unfold Ra; decide) (by decide +kernel)
 match k,hk with
 | 0,_ =>
  have:(Qb Dg Dh 1 3).2=true:=h1
  rw [e0] at this; cases this
 | 1,_ =>
  have:(Qb Dg Dh 2 2).1=exT:=h2
  rw [e1,V2.ext'] at this
  exact absurd this.1 (by decide +kernel)
theorem fh:GU exA exB (Mo 2 2)=10:=by
 unfold GU
 rw [if_pos (by decide)]
 decide +kernel
open Classical in
theorem fg:Mo 2 2∈BT exA exB 0:=by
 refine List.mem_filter.2 ⟨Yk (IQ 2 (.inr rfl)) rfl rfl (by decide) (by decide),?_⟩
 rw [Bool.not_eq_true',Bool.eq_false_iff]
 intro h
 unfold Eh at h
 obtain ⟨g,hg,hp⟩:=List.any_eq_true.1 h
 have hp:Db 5 5 (Mo 2 2) g:=of_decide_eq_true hp
 have hc:=H4 hg (by decide) (by decide)
 obtain ⟨_,_,_,⟨ha,_⟩,_⟩:=(HS exA exB g 0).1 hc
 obtain ⟨_,_,q1,q2,q3,q4,q5⟩:=Io hg (by decide) (by decide)
 obtain ⟨A,B,EA,EB,M,t,lo,hi⟩:=g
 have q1:0≤EA∧EA<5:=q1
 have q2:0≤EB∧EB<5:=q2
 have q4:M<5:=q4
 obtain ⟨p1,p2,p3,p4⟩:=hp
 have p1:2<M:=p1
 have p2:(1 - EA) % 5+2≤M:=p2
 have p3:(EB - (1 - EA) % 5) % 5=2:=p3
 have p4:exT=t:=p4
 subst p4
 have key:∀ (i:Nat),i≤M.toNat→Zh Dg Dh ⟨0,0,EA,EB,0,exT,v0,v0⟩ i=Zh Dg Dh ⟨0,0,EA,EB,0,exT,v0,v0⟩ 0:=fun i h=>WI ha i 0 h (by omega)
 have k3:=key 3 (by omega)
 have k4:=fun h=>key 4 h
 have c:(EA=1∧EB=2)∨(EA=0∧EB=3)∨(EA=4∧EB=4∧M=4):=by omega
 rcases c with ⟨rfl,rfl⟩ | ⟨rfl,rfl⟩ | ⟨rfl,rfl,rfl⟩
 ·exact absurd k3 (by rw [V2.ext']; decide +kernel)
 ·exact absurd k3 (by rw [V2.ext']; decide +kernel)
 ·exact absurd (k4 (by decide)) (by rw [V2.ext']; decide +kernel)
end Go.Ab.N
namespace Go.Ab.N
open Go Go.RowKit Go.Proofs
noncomputable section
set_option maxRecDepth 10000
set_option maxHeartbeats 4000000
open Classical
theorem ms (p:Int×Int):(Kd p).length=2:=rfl
theorem Gr (R:List (Int×Int)) (n m:Nat) (t:Bool) (l:List AV) (hl:l=R.flatMap Kd) (hn:n=R.length) (hm:m=R.length*2) (h0:0<R.length):Weak (.sl n m (Xp l) t) (Dj R):=by
 subst hn hm hl
 rw [Xf]
 exact AP (by rfl) (Nat.le_refl _) fun j hj=>by rw [MU Kd 2 (0,0) (by omega) ms R j hj]; exact Weak.rfl' _
theorem OU (t:Bool):WeakL [.bool false,.sl 0 0 (fun _=>.any) t,.bool false,.sl 0 0 (fun _=>.any) t] (qC 0) :=
 have h1:Xb (0:Rat).num.natAbs=[]:=by rw [Rat.zero_num]; simp [XY]
 have h2:Xb (qd (0:Rat))=[]:=CS rfl
 ⟨Weak.rfl' _,Qv h1,Weak.rfl' _,Qv h2,trivial⟩
def Rr (W:List FV) (f:FV) (j:Nat):Bool:=(W.take j).any fun g=>decide (g=f)
theorem aa (W:List FV) (f:FV) (j:Nat) (h:j<W.length):Rr W f (j+1)=(Rr W f j || decide (W.getD j ZG=f)):=by
 unfold Rr
 rw [List.take_succ_eq_append_getElem h,List.any_append,List.getD_eq_getElem?_getD,List.getElem?_eq_getElem h]
 simp
theorem gg {W:List FV} {f:FV} (h:f∈W):Rr W f W.length=true:=by
 unfold Rr
 rw [List.take_length,List.any_eq_true]
 exact ⟨f,h,by simp⟩
theorem j8 (t:Bool):WeakL [.bool (decide (exT.x.num<0)),X8 (Xb exT.x.num.natAbs),.bool false,X8 (Xb (qd exT.x)),.bool false,.sl 0 0 (fun _=>.any) t,.bool false,.sl 0 0 (fun _=>.any) t] (vC exT):=by
 obtain ⟨u1,u2,u3,u4,_⟩:=OU t
 exact ⟨Weak.rfl' _,Weak.rfl' _,Weak.rfl' _,Weak.rfl' _,u1,u2,u3,u4,trivial⟩
theorem iY (t:Bool):WeakL [I 0,I 1,I 1,I 2,I 2,.bool (decide (exT.x.num<0)),X8 (Xb exT.x.num.natAbs),.bool false,X8 (Xb (qd exT.x)),.bool false,.sl 0 0 (fun _=>.any) t,.bool false,.sl 0 0 (fun _=>.any) t,
  .bool false,.sl 0 0 (fun _=>.any) t,.bool false,.sl 0 0 (fun _=>.any) t,.bool false,.sl 0 0 (fun _=>.any) t,.bool false,.sl 0 0 (fun _=>.any) t,.bool false,.sl 0 0 (fun _=>.any) t,.bool false,.sl 0 0 (fun _=>.any) t,.bool false,.sl 0 0 (fun _=>.any) t,.bool false,.sl 0 0 (fun _=>.any) t] (XW l6):=by
 obtain ⟨u1,u2,u3,u4,_⟩:=OU t
 obtain ⟨w1,w2,w3,w4,w5,w6,w7,w8,_⟩:=Gs t
 exact ⟨Weak.rfl' _,Weak.rfl' _,Weak.rfl' _,Weak.rfl' _,Weak.rfl' _,Weak.rfl' _,Weak.rfl' _,Weak.rfl' _,Weak.rfl' _,u1,u2,u3,u4,w1,w2,w3,w4,w5,w6,w7,w8,w1,w2,w3,w4,w5,w6,w7,w8,trivial⟩
theorem iZ (t:Bool):WeakL ([I 0,I 1,I 1,I 2,I 2,.bool (decide (exT.x.num<0)),X8 (Xb exT.x.num.natAbs),.bool false,X8 (Xb (qd exT.x)),.bool false,.sl 0 0 (fun _=>.any) t,.bool false,.sl 0 0 (fun _=>.any) t] ++ (vC ⟨4,4⟩ ++ vC ⟨4,4⟩)) (XW (Mo 2 2)):=by
 obtain ⟨u1,u2,u3,u4,_⟩:=OU t
 exact ⟨Weak.rfl' _,Weak.rfl' _,Weak.rfl' _,Weak.rfl' _,Weak.rfl' _,Weak.rfl' _,Weak.rfl' _,Weak.rfl' _,Weak.rfl' _,u1,u2,u3,u4,Weak.rfl' _,Weak.rfl' _,Weak.rfl' _,Weak.rfl' _,Weak.rfl' _,Weak.rfl' _,Weak.rfl' _,Weak.rfl' _,Weak.rfl' _,Weak.rfl' _,Weak.rfl' _,Weak.rfl' _,Weak.rfl' _,Weak.rfl' _,Weak.rfl' _,Weak.rfl' _,trivial⟩
theorem pY:(⟨((4:Int):Rat),((4:Int):Rat)⟩:V2)=⟨4,4⟩:=by rw [V2.ext']; exact ⟨by decide +kernel,by decide +kernel⟩
theorem HW (eb m:Int):(Mo eb m).fine:=⟨by show vb exT≤60; decide +kernel,by show vb ⟨4,4⟩≤300; decide +kernel,by show vb ⟨4,4⟩≤300; decide +kernel⟩
theorem U3:Fn Tryz.prog 49 [] (.bool true):=by
  have cA:=Li Dg (by decide)
  have cB:=Li Dh (by decide)
  rw [show C8 Dg=exA from rfl] at cA
  rw [show C8 Dh=exB from rfl] at cB
  have a1:=CM exA exB 1 2 (by decide) (by decide) exA_gp.even.near exB_gp.even.near
  rw [show Qb exA.rim exB.rim 1 2=(exT,true) from TU] at a1
  have a2:=CM exA exB 0 2 (by decide) (by decide) exA_gp.even.near exB_gp.even.near
  rw [show Qb exA.rim exB.rim 0 2=(v0,false) from pZ] at a2
  have o1:=Jg (-1) 1 ⟨by omega,by omega⟩ ⟨by omega,by omega⟩
  have q0:=A4
  have g1:=Ik exA exB l6 exA_gp.even exB_gp.even (by show vb exT≤1000; decide +kernel) exA_gp.tol exB_gp.tol (by omega) (by omega)
  rw [show XG exA.rim exB.rim l6 (0+0)=(⟨4,4⟩,⟨4,4⟩,true) from by rw [show (0:Rat)+0=0 by decide +kernel]; exact ff] at g1
  have s1:=A6 exT exT (by unfold vm; have:vb exT≤60:=by decide +kernel
                                        omega) (by unfold vm; have:vb exT≤60:=by decide +kernel
                                                   omega)
  rw [decide_eq_true rfl] at s1
  have of1:=ZL 4 4 ⟨by omega,by omega⟩ ⟨by omega,by omega⟩
  rw [pY] at of1
  have hc:vb ⟨4,4⟩≤vm:=by unfold vm; have:vb ⟨4,4⟩≤60:=by decide +kernel
                                 omega
  have s2:=Fh ⟨4,4⟩ ⟨4,4⟩ hc hc
  rw [decide_eq_true rfl] at s2
  have z0:(0:Rat)+0=0:=by decide +kernel
  have cf:=PQ exA exB exA_gp exB_gp
  have hF:=PR exA_gp exB_gp
  rw [z0] at cf hF
  have hfd:=gg fg
  generalize BT exA exB 0=W at *
  have k1:=Ed exA exB (Mo 2 2) exA_gp exB_gp (HW 2 2)
  have k2:=Ed exA exB (Mo 2 1) exA_gp exB_gp (HW 2 1)
  have k3:=Ed exA exB (Mo 3 2) exA_gp exB_gp (HW 3 2)
  rw [z0] at k1 k2 k3
  rw [IQ 2 (.inr rfl)] at k1
  rw [IQ 1 (.inl rfl)] at k2
  rw [fi] at k3
  have k4:=YI exA exB (Mo 2 2) exA_gp.even exB_gp.even
  rw [fh] at k4
  have lW:=hF.len
  have fW:=hF.fine
  clear hF
  rw [show Rat.divInt (-1) 1=exT.x by decide +kernel] at o1
  generalize hEA:exA=pa at *
  generalize hEB:exB=pb at *
  refine Fn.intro (fn:=Tryz.f49) Tryz.call49 Tryz.func49 rfl mixed 16 [] [7,8012,80000003,80000008,80000009,16] [] (by kernel_rfl) (Nat.le_of_ble_eq_true rfl) (by simp) (X0 1000 ?_)
  simp (disch:=omega) only [AS.start,↓Xl,wD,↓X2,wA,seval,wE]
  refine Q3 cA ⟨Gr Dg _ _ _ _ rfl rfl rfl (by decide),trivial⟩ ?_
  simp (disch:=omega) only [QW,XH,↓Xl,wD,↓X2,wA,seval,wE]
  refine Q3 cB ⟨Gr Dh _ _ _ _ rfl rfl rfl (by decide),trivial⟩ ?_
  simp (disch:=omega) only [QW,XH,↓Xl,wD,↓X2,wA,seval,wE]
  refine X1 a1 rfl ?_
  simp (disch:=omega) only [QW,XH,↓Xl,wD,↓X2,wA,seval,wE]
  refine X1 a2 rfl ?_
  simp (disch:=omega) only [QW,XH,↓Xl,wD,↓X2,wA,seval,wE]
  refine X1 o1 rfl ?_
  simp (disch:=omega) only [QW,XH,↓Xl,wD,↓X2,wA,seval,wE]
  refine Q3 g1 ⟨Weak.rfl' _,Weak.rfl' _,XV (iY false),trivial⟩ ?_
  simp (disch:=omega) only [↓Xl,wD,↓X2,wA,seval,wE]
  refine Q3 s1 ⟨Weak.rfl' _,XV (j8 false),trivial⟩ ?_
  simp (disch:=omega) only [↓Xl,wD,↓X2,wA,seval,wE]
  refine X1 of1 rfl ?_
  simp (disch:=omega) only [↓Xl,wD,↓X2,wA,seval,wE]
  refine X1 s2 rfl ?_
  simp (disch:=omega) only [↓Xl,wD,↓X2,wA,seval,wE]
  refine X1 s2 rfl ?_
  simp (disch:=omega) only [QW,XH,↓Xl,wD,↓X2,wA,seval,wE]
  refine X1 cf rfl ?_
  simp (disch:=omega) only [↓Xl,wD,↓X2,wA,seval,wE]
  refine Xg (fun i:Nat=>⟨16,[],[.any,.ref 0 0 0,.ref 1 0 0,.any,.any,.any,.any,.ref 4 0 0,.any,.any,.any,HF W,.bool (Rr W (Mo 2 2) i),I i,.any,.any],[],[.con 0 25 (Xp (XH pa)),.con 0 25 (Xp (XH pb)),.con 0 8 (Xp (vC exT)),.row 0 8 (Xp (vC v0)),.con 0 29 (Xp (XW (Mo 2 2))),.con 0 8 (Xp (vC ⟨4,4⟩)),.con 0 8 (Xp (vC ⟨4,4⟩))]⟩) (fun i=>i≤W.length) (fun i=>W.length - i) 0 (by omega)
    (Sub.trans (Q2 0 rfl) (Sub.trans (Q2 1 rfl) (Sub.trans (Gj 4 _ rfl rfl (iZ false)) (Sub.trans (Q2 4 rfl) (Xa rfl (by simp [Xh,XI,I,Rr]) (by simp [Xi]) (by simp [XH,XW,vC,Xf,Xo,X4,I,sg])))))) ?_
  intro i hi next
  by_cases hi2:i<W.length
  · have x1:=fF W i
    have x2:=nW W i
    have hm:=fW _ (QE (d:=ZG) hi2)
    have hs:=aa W (Mo 2 2) i hi2
    generalize W.getD i ZG=f at *
    have cs:=Lo f (Mo 2 2) hm (HW 2 2)
    generalize decide (f=Mo 2 2)=D at *
    generalize Rr W (Mo 2 2) i=B0 at *
    cases B0
    · refine X0 1000 ?_
      simp (disch:=omega) only [x1,x2,XI,XW,List.cons_append,List.nil_append,↓Xl,wD,↓X2,wA,seval,wE]
      refine X1 cs rfl ?_
      simp (disch:=omega) only [XI,↓Xl,wD,↓X2,wA,seval,wE]
      exact next (i+1) _ (by omega) (by omega) (Xa rfl (by simp [Xh,XI,I,hs]) (by simp [Xi]) (by simp [XH,XW,vC,Xf,Xo,X4,I,sg]))
    · refine X0 1000 ?_
      simp (disch:=omega) only [x1,x2,XI,XW,List.cons_append,List.nil_append,↓Xl,wD,↓X2,wA,seval,wE]
      exact next (i+1) _ (by omega) (by omega) (Xa rfl (by simp [Xh,XI,I,hs]) (by simp [Xi]) (by simp [XH,XW,vC,Xf,Xo,X4,I,sg]))
  obtain rfl:i=W.length:=by omega
  refine X0 1000 ?_
  rw [hfd]
  simp (disch:=omega) only [XI,XH,XW,List.cons_append,List.nil_append,↓Xl,wD,↓X2,wA,seval,wE]
  refine X1 k1 rfl ?_
  simp (disch:=omega) only [XH,XW,List.cons_append,List.nil_append,↓Xl,wD,↓X2,wA,seval,wE]
  refine X1 k2 rfl ?_
  simp (disch:=omega) only [XH,XW,List.cons_append,List.nil_append,↓Xl,wD,↓X2,wA,seval,wE]
  refine X1 k3 rfl ?_
  simp (disch:=omega) only [XH,XW,List.cons_append,List.nil_append,↓Xl,wD,↓X2,wA,seval,wE]
  refine X1 k4 rfl ?_
  simp (disch:=omega) only [↓Xl,wD,↓X2,wA,seval,wE]
  exact Xu rfl rfl (X3 _) rfl
theorem PT {f:FV} (h:f.fine):vb f.turn≤vm∧vb f.lo≤vm∧vb f.hi≤vm:=by
 obtain ⟨h1,h2,h3⟩:=h
 unfold vm
 exact ⟨by omega,by omega,by omega⟩
theorem Rw {n m:Nat} {f:FV} (hn:n≤12) (hm:m≤12) (h:(0≤f.EA∧f.EA<n)∧(0≤f.EB∧f.EB<m)∧1≤f.M∧f.M<n∧f.M<m):f.near:=⟨by omega,by omega,by omega⟩
theorem PS {a b:PV} {e:Rat} {f g:FV} (hf:f∈BT a b e) (hg:g∈BT a b e):¬ Db a.rim.length b.rim.length f g:=fun h=>by
 have h1:=(List.mem_filter.1 hf).2
 rw [Bool.not_eq_true',Bool.eq_false_iff] at h1
 exact h1 (List.any_eq_true.2 ⟨g,(List.mem_filter.1 hg).1,decide_eq_true h⟩)
theorem TW (l m:List Int) (hl:BP l) (hl2:l.length<9223372036854775808) (hm:BP m) (hm2:m.length<9223372036854775808) :
  Fn Tryz.prog 7 [X8 l,X8 m] (.bool true):=by
 obtain ⟨A,B,ta,tb,cP,gA,gB,sA,sB⟩:=ap l m hl hl2 hm hm2
 have co:=PQ A B gA gB
 have cr:=Uo A B gA gB
 have ho:=PR gA gB
 have pA:=Ia gA; have pB:=Ia gB
 have hsh:∀ f∈BT A B (ta+tb),f.A=0∧f.B=1∧(0≤f.EA∧f.EA<A.rim.length)∧(0≤f.EB∧f.EB<B.rim.length)∧1≤f.M∧f.M<A.rim.length∧f.M<B.rim.length:=fun f hf=>Io (List.mem_filter.1 hf).1 pA.1 pB.1
 have hnp:∀ f∈BT A B (ta+tb),∀ g∈BT A B (ta+tb),¬ Db A.rim.length B.rim.length f g:=fun f hf g hg=>PS hf hg
 have lL:=ho.len
 have cs:=Sg (BT A B (ta+tb)) (by omega) ho.fine
 generalize BT A B (ta+tb)=L at *
 have bL:JM 2 (HF L)=True:=eq_true (X6 (KS L))
 have bA:XK 2 (.con 0 25 (Xp (XH A)))=True:=eq_true (fun j _=>X6 (Xe (XA A) _))
 have bB:XK 2 (.con 0 25 (Xp (XH B)))=True:=eq_true (fun j _=>X6 (Xe (XA B) _))
 refine Fq Tryz.call7 Tryz.func7 10 [] [8,13] [] (by simp [X7]) (X0 1000 ?_)
 simp (disch:=omega) only [AS.start,↓Xl,wD,↓X2,wA,seval,wE]
 refine X1 cP rfl ?_
 simp (disch:=omega) only [QW,XH,↓Xl,wD,↓X2,wA,seval,wE]
 refine X1 co rfl ?_
 simp (disch:=omega) only [QW,XH,↓Xl,wD,↓X2,wA,seval,wE]
 refine X1 cr rfl ?_
 simp (disch:=omega) only [↓Xl,wD,↓X2,wA,seval,wE]
 refine X1 cs rfl ?_
 simp (disch:=omega) only [↓Xl,wD,↓X2,wA,seval,wE]
 refine Xg (fun i:Nat=>⟨10,[],[.any,.any,.any,.any,.any,.ref 0 0 0,.ref 1 0 0,HF L,I i,.any],[],[.con 0 25 (Xp (XH A)),.con 0 25 (Xp (XH B))]⟩) (fun i=>i≤L.length) (fun i=>L.length - i) 0 (by omega)
  (Sub.trans (Q2 0 rfl) (Sub.trans (Q2 1 rfl) (Xa rfl (by simp [Xh,XI,I]) (by simp [Xi]) (by simp [XH,Xf,Xo,X4,I,sg])))) ?_
 intro i hi next
 by_cases hi2:i<L.length
 rotate_left
 ·refine X0 1000 ?_
  simp (disch:=omega) only [XI,↓Xl,wD,↓X2,wA,seval,wE]
  refine X1 U3 rfl ?_
  simp (disch:=omega) only [↓Xl,wD,↓X2,wA,seval,wE]
  exact Xu rfl rfl (X3 _) rfl
 have hm:=QE (d:=ZG) hi2
 have hf:=ho.fine _ hm
 have h2:=ho.ok _ hm
 obtain ⟨e1,e2,h3⟩:=hsh _ hm
 have hnp:=hnp _ hm
 have x1:=fF L i
 have x2:=nW L i
 generalize L.getD i ZG=f at *
 have c2:=Ed A B f gA gB hf
 rw [h2] at c2
 have nf:f.near:=Rw pA.2 pB.2 h3
 refine X0 1000 ?_
 simp (disch:=omega) only [x1,x2,XI,XH,XW,↓Xl,wD,↓X2,wA,seval,wE]
 refine X1 c2 rfl ?_
 simp (disch:=omega) only [e1,e2,x1,x2,XI,XH,XW,↓Xl,wD,↓X2,wA,seval,wE]
 refine Xg (fun j:Nat=>⟨10,[],[.any,.any,.any,.any,.any,.ref 0 0 0,.ref 1 0 0,HF L,I i,I j],[],[.con 0 25 (Xp (XH A)),.con 0 25 (Xp (XH B))]⟩) (fun j=>j≤L.length) (fun j=>L.length - j) 0 (by omega)
  (Xa rfl (by simp [Xh,XI,I]) (by simp [Xi]) (by simp [XH,Xf,Xo,X4,I,sg])) ?_
 intro j hj nextj
 by_cases hj2:j<L.length
 rotate_left
 ·refine X0 1000 ?_
  simp (disch:=omega) only [XI,↓Xl,wD,↓X2,wA,seval,wE]
  exact next (i+1) _ (by omega) (by omega) (Xa rfl (by simp [Xh,XI,I]) (by simp [Xi]) rfl)
 clear next
 have hm':=QE (d:=ZG) hj2
 have hg:=ho.fine _ hm'
 obtain ⟨_,_,h4⟩:=hsh _ hm'
 have hnp:=hnp _ hm'
 have y1:=fF L j
 have y2:=nW L j
 generalize L.getD j ZG=g at *
 have c3:=VM A B f g (by omega) (by omega) nf (Rw pA.2 pB.2 h4) (PT hf).1 (PT hg).1
 rw [decide_eq_false hnp] at c3
 refine X0 1000 ?_
 simp (disch:=omega) only [x1,x2,y1,y2,XI,XH,XW,↓Xl,wD,↓X2,wA,seval,wE]
 refine X1 c3 rfl ?_
 simp (disch:=omega) only [↓Xl,wD,↓X2,wA,seval,wE]
 exact nextj (j+1) _ (by omega) (by omega) (Xa rfl (by simp [Xh,XI,I]) (by simp [Xi]) rfl)
end
end Go.Ab.N
