/- Contracts of functions of these chapters, for every argument that fits, and what they need. -/
import Derived.Test.YtefjhgcndhepeaaGreatC13
import Derived.Test.YtefjhgcndhepeaaGreatC14
set_option linter.unusedSimpArgs false
set_option linter.unusedVariables false
open Nat renaming reducePow → Y1, reduceLT → Y2, reduceLeDiff → Y3, reduceEqDiff → Y4, reduceAdd → Y5, reduceMul → Y6, reduceSub → Y7, reduceBEq → Y8, reduceDiv → Y9, reduceMod → YA
namespace Go.Ab.N
open Go Go.RowKit Go.Proofs
noncomputable section
set_option maxRecDepth 10000
set_option maxHeartbeats 4000000
open Classical
theorem Sh (L:List FV) (hL:L.length<1000000) (hf:∀ f∈L,f.fine):Fn Tryz.prog 51 [HG L,HG L] (.bool true):=by
 refine Fq Tryz.call51 Tryz.func51 6 [] [6] [] (by simp [KS]) (X0 1000 ?_)
 simp (disch:=omega) only [AS.start,XI,↓Xl,wD,↓X2,wA,seval,wE]
 refine Xg (fun i:Nat=>⟨6,[],[HG L,HG L,.any,.any,.bool false,I i],[],[]⟩) (fun i=>i≤L.length) (fun i=>L.length - i) 0 (by omega)
  (Xa rfl (by simp [Xh,XI,I]) (by simp [Xi]) rfl) ?_
 intro i hi next
 by_cases hi2:i<L.length
 rotate_left
 ·refine X0 1000 ?_
  simp (disch:=omega) only [XI,↓Xl,wD,↓X2,wA,seval,wE]
  exact Xu rfl rfl (X3 _) rfl
 have hm:=hf _ (QE (d:=ZG) hi2)
 have x1:=fF L i
 have x2:=nX L i
 generalize L.getD i ZG=f at *
 have c:=Lp f f hm hm
 rw [decide_eq_true rfl] at c
 refine X0 1000 ?_
 simp (disch:=omega) only [x1,x2,XI,XW,List.cons_append,List.nil_append,↓Xl,wD,↓X2,wA,seval,wE]
 refine X1 c rfl ?_
 simp (disch:=omega) only [XI,↓Xl,wD,↓X2,wA,seval,wE]
 exact next (i+1) _ (by omega) (by omega) (Xa rfl (by simp [Xh,XI,I]) (by simp [Xi]) rfl)
theorem Sx {R:List (Int×Int)} (hn:QV R) (k:Nat):((0≤(Gu R k).1*(Gu R k).1∧(Gu R k).1*(Gu R k).1≤17179869184)∧(0≤(Gu R k).2*(Gu R k).2∧(Gu R k).2*(Gu R k).2≤17179869184))∧0≤SX R k∧SX R k≤34359738368:=by
 have h0:=Dt hn k
 unfold SX
 generalize Gu R k=D at *
 have key:∀ x:Int,-131072≤x∧x≤131072→0≤x*x∧x*x≤17179869184:=fun x hx=>by
  rcases Int.le_total 0 x with h | h
  ·exact ⟨Int.mul_nonneg h h,Int.mul_le_mul hx.2 hx.2 h (by omega)⟩
  ·have:=Int.mul_le_mul (show -x≤131072 by omega) (show -x≤131072 by omega) (by omega) (by omega)
   rw [Int.neg_mul_neg] at this
   exact ⟨Int.mul_nonneg_of_nonpos_of_nonpos h h,this⟩
 have h1:=key D.1 h0.1
 have h2:=key D.2 h0.2
 omega
def qV (a b:PV) (f:FV) (k:Nat):Int:=if a.marks.getD (xK a.rim.length f k) 0≠0∧a.marks.getD (xK a.rim.length f k) 0=b.marks.getD (yK b.rim.length f k) 0 then 1000 else 0
def Sj (a b:PV) (f:FV):Nat→Int
 | 0=>0
 | k+1=>Sj a b f k+SX a.rim (xK a.rim.length f k)+qV a b f k
def GV (a b:PV) (f:FV):Int:=if Bc a.rim.length b.rim.length f then Sj a b f f.M.toNat else 0
theorem NC {a:PV} (b:PV) (f:FV) (hn:QV a.rim):∀ k:Nat,0≤Sj a b f k∧Sj a b f k≤34359739368*k
 | 0=>by simp [Sj]
 | k+1=>by
  have ih:=NC b f hn k
  have h:=(Sx hn (xK a.rim.length f k)).2
  have h2:0≤qV a b f k∧qV a b f k≤1000:=by unfold qV; split <;> omega
  simp only [Sj]
  omega
theorem YJ (a b:PV) (f:FV) (ha:a.even) (hb:b.even):Fn Tryz.prog 62 [QW a,QW b,Zc f] (I (GV a b f)):=by
 have la:=ha.rim; have lb:=hb.rim
 have cs:=Dy a b f la lb
 obtain ⟨V,hV⟩:∃ V,V=GV a b f:=⟨_,rfl⟩
 rw [← hV]
 have fin:∀ {s:AS} {v:Int},s.get 6=I v→v=V→RetOk (QR Tryz.prog Tryz.f62 [] [] (I V)) s:=fun h e=>Xu rfl h (X9 _) (by rw [e])
 by_cases hf:Bc a.rim.length b.rim.length f
 rotate_left
 ·rw [decide_eq_false hf] at cs
  refine Fq Tryz.call62 Tryz.func62 11 [19,20,21] [] [] (by simp [Xz,Qg]) (X0 1000 ?_)
  simp (disch:=omega) only [AS.start,QW,XH,Zc,XW,↓Xl,wD,↓X2,wA,seval,wE]
  refine X1 cs rfl ?_
  simp (disch:=omega) only [↓Xl,wD,↓X2,wA,seval,wE]
  exact fin rfl (by rw [hV]; unfold GV; rw [if_neg hf])
 rw [decide_eq_true hf] at cs
 have ce:=FC a b f hf la lb
 have hVe:V=Sj a b f f.M.toNat:=by rw [hV]; unfold GV; rw [if_pos hf]
 obtain ⟨⟨s1,s2⟩,⟨s3,s4⟩,s5,s6,s7⟩:=hf
 obtain ⟨N,hN⟩:∃ N:Nat,f.M=N:=⟨f.M.toNat,by omega⟩
 rw [hN,Int.toNat_natCast] at hVe
 obtain ⟨L,hL⟩:∃ L,L=Du a.rim.length b.rim.length f:=⟨_,rfl⟩
 have hlen:L.length=N:=by rw [hL,Bs,hN]; rfl
 have hat:∀ k,k<N→L.getD k (0,0)=((xK a.rim.length f k:Int),(yK b.rim.length f k:Int)):=fun k hk=>by rw [hL]; exact Et _ _ _ _ (by omega)
 rw [← hL] at ce
 clear hL
 have ba:XK 3 (.row 0 25 (Xp (XH a)))=True:=eq_true (XE (XA a))
 have bb:XK 3 (.row 0 25 (Xp (XH b)))=True:=eq_true (XE (XA b))
 have bf:XK 3 (.row 0 29 (Xp (XW f)))=True:=eq_true (XE (XU f))
 have bL:JM 3 (Dj L)=True:=eq_true (X6 (QF _))
 refine Fq Tryz.call62 Tryz.func62 11 [19,20,21] [] [] (by simp [Xz,Qg]) (X0 1000 ?_)
 simp (disch:=omega) only [AS.start,QW,XH,Zc,XW,↓Xl,wD,↓X2,wA,seval,wE]
 refine X1 cs rfl ?_
 simp (disch:=omega) only [XH,XW,↓Xl,wD,↓X2,wA,seval,wE]
 refine X1 ce rfl ?_
 simp (disch:=omega) only [Xf,hlen,↓Xl,wD,↓X2,wA,seval,wE]
 refine Xg (fun k:Nat=>⟨11,[19,20,21],[.any,.any,.any,.ref 0 0 0,.ref 1 0 0,.ref 2 0 0,.any,I (Sj a b f k),.any,.any,.any],[(19,Dj L),(20,I N),(21,I k)],[.row 0 25 (Xp (XH a)),.row 0 25 (Xp (XH b)),.row 0 29 (Xp (XW f))]⟩) (fun k=>k≤N) (fun k=>N - k) 0 (by omega)
  (Xa rfl (by simp [Xh,I,Sj]) (by simp [Xi,Xw,Xf,hlen,I]) (by simp [XH,XW,Xf,Xo,X4,I,sg])) ?_
 intro k hk next
 by_cases hk2:k<N
 rotate_left
 ·obtain rfl:k=N:=by omega
  refine X0 1000 ?_
  simp (disch:=omega) only [↓Xl,wD,↓X2,wA,seval,wE]
  exact fin rfl hVe.symm
 have hx:=SU a.rim.length f k (by omega)
 have hy:=je b.rim.length f k (by omega)
 have cq:=Fd a (xK a.rim.length f k) hx la ha.near
 have bq:=(Sx ha.near (xK a.rim.length f k)).2
 have bn:=NC b f ha.near k
 have v1:=mv L k
 rw [hat k hk2] at v1
 have hnext:Sj a b f (k+1)=Sj a b f k+SX a.rim (xK a.rim.length f k)+qV a b f k:=rfl
 have hsc:qV a b f k=if a.marks.getD (xK a.rim.length f k) 0≠0∧a.marks.getD (xK a.rim.length f k) 0=b.marks.getD (yK b.rim.length f k) 0 then 1000 else 0:=rfl
 have ea:=ha.marks; have eb:=hb.marks
 generalize SX a.rim (xK a.rim.length f k)=Q at *
 generalize xK a.rim.length f k=X at *
 generalize yK b.rim.length f k=Y at *
 have w1:IntKind.i64.wrap (Sj a b f k+Q)=Sj a b f k+Q:=by rw [IntKind.wrap_i64]; omega
 have w2:IntKind.i64.wrap (Sj a b f k+Q+1000)=Sj a b f k+Q+1000:=by rw [IntKind.wrap_i64]; omega
 have c0:∀ c,qV a b f k=c→Sj a b f (k+1)=Sj a b f k+Q+c:=fun c hc=>by rw [hnext,hc]
 have t1:(1:Int).toNat=1:=rfl
 by_cases h0:a.marks.getD X 0=0
 ·have e:=c0 0 (by rw [hsc,if_neg (fun h=>h.1 h0)])
  rw [Int.add_zero] at e
  refine X0 1000 ?_
  simp (disch:=omega) only [v1,w1,hlen,Xf,XH,XW,X4,↓Xl,wD,↓X2,wA,seval,wE]
  refine X1 cq rfl ?_
  simp (disch:=omega) only [v1,w1,hlen,eq_true h0,Xf,XH,XW,X4,↓Xl,wD,↓X2,wA,seval,wE]
  exact next (k+1) _ (by omega) (by omega) (Xv (m:=3) (Nat.zero_le _) rfl (by simp [Xh,I,e]) (by simp [Xi,Xw,Xf,hlen,I]) (by simp [XH,XW,Xf,Xo,X4,I,sg]) (by simp [Xy]) (by simp [Xy,bL]) (by simp [ba,bb,bf]))
 by_cases h1:a.marks.getD X 0=b.marks.getD Y 0
 ·have e:=c0 1000 (by rw [hsc,if_pos ⟨h0,h1⟩])
  refine X0 1000 ?_
  simp (disch:=omega) only [v1,w1,hlen,Xf,XH,XW,X4,↓Xl,wD,↓X2,wA,seval,wE]
  refine X1 cq rfl ?_
  simp (disch:=omega) only [v1,w1,w2,t1,hlen,eq_false h0,eq_true h1,Xf,XH,XW,X4,↓Xl,wD,↓X2,wA,seval,wE]
  exact next (k+1) _ (by omega) (by omega) (Xv (m:=3) (Nat.zero_le _) rfl (by simp [Xh,I,e]) (by simp [Xi,Xw,Xf,hlen,I]) (by simp [XH,XW,Xf,Xo,X4,I,sg]) (by simp [Xy]) (by simp [Xy,bL]) (by simp [ba,bb,bf]))
 ·have e:=c0 0 (by rw [hsc,if_neg (fun h=>h1 h.2)])
  rw [Int.add_zero] at e
  refine X0 1000 ?_
  simp (disch:=omega) only [v1,w1,hlen,Xf,XH,XW,X4,↓Xl,wD,↓X2,wA,seval,wE]
  refine X1 cq rfl ?_
  simp (disch:=omega) only [v1,w1,w2,t1,hlen,eq_false h0,eq_false h1,Xf,XH,XW,X4,↓Xl,wD,↓X2,wA,seval,wE]
  exact next (k+1) _ (by omega) (by omega) (Xv (m:=3) (Nat.zero_le _) rfl (by simp [Xh,I,e]) (by simp [Xi,Xw,Xf,hlen,I]) (by simp [XH,XW,Xf,Xo,X4,I,sg]) (by simp [Xy]) (by simp [Xy,bL]) (by simp [ba,bb,bf]))
end
end Go.Ab.N
namespace Go.Ab.N
open Go Go.RowKit Go.Proofs
set_option maxRecDepth 10000
set_option maxHeartbeats 4000000
def qi (a b c p:V2):Bool:=decide (0≤Je a b p) && decide (0≤Je b c p) && decide (0≤Je c a p)
def fA (L:List V2) (a b c k:Nat):Bool:=decide (k=a) || decide (k=c) || decide (k=b) || !qi (L.getD a v0) (L.getD b v0) (L.getD c v0) (L.getD k v0)
def kY (L:List V2) (R:List Nat) (p:Nat):Bool:=decide (0<GW L R p) && (List.range R.length).all fun j=>fA L (nr R (p+R.length - 1)) (R.getD p 0) (nr R (p+R.length+1)) (R.getD j 0)
theorem fT (a b c p:V2):qi a b c p=true↔bG a b c p:=by
 unfold qi bG
 simp only [Bool.and_eq_true,decide_eq_true_eq,and_assoc]
theorem MX (L:List V2) (a b c k:Nat):fA L a b c k=true↔AD L a b c k:=by
 unfold fA AD
 rw [← fT]
 simp only [Bool.or_eq_true,decide_eq_true_eq,or_assoc,Bool.not_eq_true',Bool.not_eq_true]
open Classical in
theorem kZ (L:List V2) (R:List Nat) (p:Nat):AQ L R p=kY L R p:=by
 unfold AQ kY
 rw [Bool.eq_iff_iff,decide_eq_true_eq,Bool.and_eq_true,decide_eq_true_eq,List.all_eq_true]
 refine and_congr_right fun _=>⟨fun h j hj=>(MX _ _ _ _ _).2 (h j (List.mem_range.1 hj)),fun h j hj=>(MX _ _ _ _ _).1 (h j (List.mem_range.2 hj))⟩
def Vl (L:List V2) (R:List Nat):Nat:=(List.range (R.length - 1)).findIdx (kY L R)
theorem eD (L:List V2) (R:List Nat):FB L R=Vl L R:=by
 unfold FB Vl
 rw [show AQ L R=kY L R from funext (kZ L R)]
def fp (L:List V2) (R:List Nat):Nat:=(List.range R.length).findIdx fun p=>decide (GW L R p=0)
theorem fq (L:List V2) (R:List Nat):KG L R=fp L R:=by
 rfl
def kJ (L:List V2):Nat→List Nat→List Nat
 | 0,R=>R
 | f+1,R=>if 3<R.length∧fp L R<R.length then kJ L f (R.eraseIdx (fp L R)) else R
theorem Vc (L:List V2):∀ (f:Nat) (R:List Nat),KZ L f R=kJ L f R
 | 0,_=>rfl
 | f+1,R=>by
  unfold KZ kJ
  rw [fq,Vc L f]
def kT (L:List V2):Nat→List Nat→List (Nat×Nat×Nat)
 | 0,R=>[(R.getD 0 0,R.getD 1 0,R.getD 2 0)]
 | f+1,R=>if 3<R.length then Ez R (Vl L R) :: kT L f (kJ L (R.length - 1) (R.eraseIdx (Vl L R))) else [(R.getD 0 0,R.getD 1 0,R.getD 2 0)]
theorem Vg (L:List V2):∀ (f:Nat) (R:List Nat),Bo L f R=kT L f R
 | 0,_=>rfl
 | f+1,R=>by
  unfold Bo kT BK
  rw [eD,Vc,Vg L f]
def O5 (p:PV) (t c:V2):List (List V2):=((kT (XB p.rim) p.rim.length (List.range p.rim.length)).map (aW (XB p.rim))).map (Kl t c)
theorem MI (p:PV) (t c:V2):Kb p t c=O5 p t c:=by
 unfold Kb O5 K3 BJ
 rw [Vg,show (XB p.rim).length=p.rim.length by simp [XB]]
def sX (n:V2) (A B:List V2) (e:Rat):Bool:=decide (e*Z5 n≤F6 n A B)
def gK (A B:List V2) (e:Rat):Bool:=(ZF A B).any fun d=>sX d A B e
def p9 (A B:List (List V2)) (e:Rat):Bool:=A.all fun x=>B.all fun y=>gK x y e
open Classical in
theorem gL (A B:List V2) (e:Rat):(Zl A B e).2=gK A B e:=by
 unfold Zl gK
 rw [Bool.eq_iff_iff,IU,List.any_eq_true]
 unfold Gd sX
 simp only [decide_eq_true_eq]
theorem Pb {α:Type} (l:List α) (d:α) (p:α→Bool):(∀ i,i<l.length→p (l.getD i d)=true)↔l.all p=true:=by
 rw [List.all_eq_true]
 constructor
 ·intro h x hx
  obtain ⟨i,hi,rfl⟩:=List.getElem_of_mem hx
  have:=h i hi
  rwa [List.getD_eq_getElem?_getD,List.getElem?_eq_getElem hi] at this
 ·intro h i hi
  rw [List.getD_eq_getElem?_getD,List.getElem?_eq_getElem hi]
  exact h _ (List.getElem_mem hi)
open Classical in
theorem jP (A B:List (List V2)) (e:Rat):HE A B e=p9 A B e:=by
 unfold HE p9
 rw [Bool.eq_iff_iff,decide_eq_true_eq,← Pb A []]
 refine forall_congr' fun i=>forall_congr' fun _=>?_
 unfold Iq
 rw [decide_eq_true_eq,← Pb B []]
 refine forall_congr' fun k=>forall_congr' fun _=>?_
 unfold Ze
 rw [gL]
def dV (a b:PV) (f:FV) (e:Rat):Bool:=p9 (O5 a KH v0) (O5 b f.turn (FP f)) (-e)
theorem Yn (a b:PV) (f:FV) (e:Rat):KK a b f e=dV a b f e:=by
 unfold KK dV
 rw [jP,MI,MI]
def sZ (n m:Nat) (f:FV):Bool:=decide ((0≤f.EA∧f.EA<n)∧(0≤f.EB∧f.EB<m)∧1≤f.M∧f.M<n∧f.M<m)
theorem Gh {n m:Nat} {f:FV}:sZ n m f=true↔Bc n m f:=decide_eq_true_iff
def rs (g:Nat→Rat):Nat→Rat
 | 0=>g 0
 | k+1=>if rs g k<g (k+1) then g (k+1) else rs g k
def rr (g:Nat→Rat):Nat→Rat
 | 0=>g 0
 | k+1=>if g (k+1)<rr g k then g (k+1) else rr g k
theorem Ud (g:Nat→Rat):∀ k,me g k=rs g k
 | 0=>rfl
 | k+1=>by
  unfold me rs VD
  rw [Ud g k]
theorem Uc (g:Nat→Rat):∀ k,ma g k=rr g k
 | 0=>rfl
 | k+1=>by
  unfold ma rr VB
  rw [Uc g k]
def ti (a b:List (Int×Int)) (f:FV) (k:Nat):V2:=⟨rs (fun j=>(Zh a b f j).x) k,rs (fun j=>(Zh a b f j).y) k⟩
def th (a b:List (Int×Int)) (f:FV) (k:Nat):V2:=⟨rr (fun j=>(Zh a b f j).x) k,rr (fun j=>(Zh a b f j).y) k⟩
theorem qr (a b:List (Int×Int)) (f:FV) (k:Nat):Am a b f k=ti a b f k:=by unfold Am ti; rw [Ud,Ud]
theorem qc (a b:List (Int×Int)) (f:FV) (k:Nat):Ak a b f k=th a b f k:=by unfold Ak th; rw [Uc,Uc]
def UY (a b:List (Int×Int)) (f:FV) (c:V2):Bool :=
 sZ a.length b.length f && decide (f.turn.x*f.turn.x+f.turn.y*f.turn.y=1) && decide ((ti a b f f.M.toNat).x=c.x) && decide ((ti a b f f.M.toNat).y=c.y) && decide ((th a b f f.M.toNat).x=c.x) && decide ((th a b f f.M.toNat).y=c.y)
theorem MB {a b:List (Int×Int)} {f:FV} {c:V2} (h:UY a b f c=true):XG a b f 0=(c,c,true):=by
 unfold UY at h
 simp only [Bool.and_eq_true,decide_eq_true_eq] at h
 obtain ⟨⟨⟨⟨⟨h1,h2⟩,h3⟩,h4⟩,h5⟩,h6⟩:=h
 have e1:Am a b f f.M.toNat=c:=by rw [qr,V2.ext']; exact ⟨h3,h4⟩
 have e2:Ak a b f f.M.toNat=c:=by rw [qc,V2.ext']; exact ⟨h5,h6⟩
 unfold XG
 rw [if_pos ⟨Gh.1 h1,h2⟩]
 simp only [e1,e2]
 have z1:c.sub ⟨0,0⟩=c:=by unfold V2.sub; rw [V2.ext']; exact ⟨by simp only; grind,by simp only; grind⟩
 have z2:c.add ⟨0,0⟩=c:=by unfold V2.add; rw [V2.ext']; exact ⟨by simp only; grind,by simp only; grind⟩
 rw [z1,z2,if_neg (fun h=>by rcases h with h | h <;> exact absurd h (Rat.lt_irrefl))]
theorem gw (g:Nat→Rat):∀ n k,k≤n→g k≤me g n
 | 0,k,h=>by
  obtain rfl:k=0:=by omega
  exact Rat.le_refl
 | n+1,k,h=>by
  unfold me VD
  by_cases hk:k=n+1
  ·subst hk
   split
   ·exact Rat.le_refl
   ·rename_i h; exact Rat.not_lt.1 h
  ·have ih:=gw g n k (by omega)
   split
   ·rename_i h; exact Rat.le_trans ih (Rat.le_of_lt h)
   ·exact ih
theorem gq (g:Nat→Rat):∀ n k,k≤n→ma g n≤g k
 | 0,k,h=>by
  obtain rfl:k=0:=by omega
  exact Rat.le_refl
 | n+1,k,h=>by
  unfold ma VB
  by_cases hk:k=n+1
  ·subst hk
   split
   ·exact Rat.le_refl
   ·rename_i h; exact Rat.not_lt.1 h
  ·have ih:=gq g n k (by omega)
   split
   ·rename_i h; exact Rat.le_trans (Rat.le_of_lt h) ih
   ·exact ih
theorem WJ {a b:List (Int×Int)} {f:FV} (h:(XG a b f 0).2.2=true) (i j:Nat) (hi:i≤f.M.toNat) (hj:j≤f.M.toNat):Zh a b f i=Zh a b f j:=by
 obtain ⟨_,_,_,h1,h2⟩:=di h
 have z:∀ x y:Rat,x - 0≤y+0→x≤y:=fun x y h=>by grind
 have h1:=z _ _ h1
 have h2:=z _ _ h2
 have t:∀ (g:Nat→Rat),me g f.M.toNat≤ma g f.M.toNat→g i=g j:=fun g hg=>by
  have a1:=gw g _ i hi; have a2:=gw g _ j hj; have a3:=gq g _ i hi; have a4:=gq g _ j hj
  exact Rat.le_antisymm (Rat.le_trans a1 (Rat.le_trans hg a4)) (Rat.le_trans a2 (Rat.le_trans hg a3))
 rw [V2.ext']
 exact ⟨t (fun k=>(Zh a b f k).x) h1,t (fun k=>(Zh a b f k).y) h2⟩
def Dg:List (Int×Int):=[(0,0),(2,0),(3,2),(2,4),(0,4)]
def Dh:List (Int×Int):=[(0,0),(2,0),(1,2),(2,4),(0,4)]
def exA:PV:=C7 Dg
def exB:PV:=C7 Dh
def exT:V2:=⟨-1,0⟩
def l7:FV:=⟨0,1,1,2,2,exT,v0,v0⟩
def Mp (eb m:Int):FV:=⟨0,1,1,eb,m,exT,⟨4,4⟩,⟨4,4⟩⟩
theorem Np (R:List (Int×Int)) (h:DN (XB R)=true) (hn:∀ c∈R,(-65536≤c.1∧c.1≤65536)∧(-65536≤c.2∧c.2≤65536)) (hl:R.length<1000000):GP (C7 R) 0 :=
 ⟨⟨hl,by simp [C7],by simp [C7],hn⟩,DO _ h,rfl,by have:=A4; omega⟩
theorem exA_gp:GP exA 0:=Np Dg (by decide +kernel) (by decide) (by decide)
theorem exB_gp:GP exB 0:=Np Dh (by decide +kernel) (by decide) (by decide)
theorem dl {a b t:V2} (h:Q7 a a≠0∧Q7 a a=Q7 b b∧Q7 a b / Q7 a a=t.x∧Qo a b / Q7 a a=t.y):J4 a b=(t,0):=by
 obtain ⟨h1,h2,h3,h4⟩:=h
 unfold J4
 rw [if_neg (by rw [← h2]; simp [h1]),if_pos h2]
 rw [Prod.mk.injEq,V2.ext']
 exact ⟨⟨h3,h4⟩,rfl⟩
theorem MD {a b:List (Int×Int)} {i j:Int} {t:V2} (h:Rb a.length b.length i j) (h2:Q7 (KI (AR b j.toNat)) (KI (AR b j.toNat))≠0∧Q7 (KI (AR b j.toNat)) (KI (AR b j.toNat))=Q7 (AR a i.toNat) (AR a i.toNat) ∧
  Q7 (KI (AR b j.toNat)) (AR a i.toNat) / Q7 (KI (AR b j.toNat)) (KI (AR b j.toNat))=t.x∧Qo (KI (AR b j.toNat)) (AR a i.toNat) / Q7 (KI (AR b j.toNat)) (KI (AR b j.toNat))=t.y):Qb a b i j=(t,true):=by
 unfold Qb
 rw [if_pos h,dl h2]; rfl
theorem MC {a b:List (Int×Int)} {i j:Int} (h2:Q7 (KI (AR b j.toNat)) (KI (AR b j.toNat))≠Q7 (AR a i.toNat) (AR a i.toNat)):Qb a b i j=(v0,false):=by
 unfold Qb
 split
 ·obtain ⟨e1,e2⟩:=Ft _ _ h2
  rw [e1,decide_eq_false e2]
 ·rfl
theorem TV:Qb Dg Dh 1 2=(exT,true):=MD (by unfold Rb; decide) (by decide +kernel)
theorem q7:Qb Dg Dh 0 2=(v0,false):=MC (by decide +kernel)
theorem fg:XG Dg Dh l7 0=(⟨4,4⟩,⟨4,4⟩,true):=MB (by decide +kernel)
theorem YB (m:Int) (h:m=1∨m=2):XG Dg Dh (Mp 2 m) 0=(⟨4,4⟩,⟨4,4⟩,true):=by
 rcases h with rfl | rfl <;> exact MB (by decide +kernel)
theorem gS {a b:PV} {f:FV} (h:((List.range f.M.toNat).all fun k=>!Pm a b f k)=true):Ey a b f:=fun k hk=>by
 have:=List.all_eq_true.1 h k (List.mem_range.2 hk)
 simpa using this
theorem IR (m:Int) (h:m=1∨m=2):Bm exA exB (Mp 2 m) 0=0:=by
 rw [HT]
 refine ⟨?_,?_,⟨0,?_,?_,?_⟩,?_,?_⟩
 ·rcases h with rfl | rfl <;> exact Gh.1 (by decide)
 ·rcases h with rfl | rfl <;> exact gS (by decide +kernel)
 ·rcases h with rfl | rfl <;> decide
 ·rcases h with rfl | rfl <;> exact congrArg (·.2) TV
 ·rcases h with rfl | rfl <;> exact congrArg (·.1) TV
 ·have:=YB m h
  show (XG Dg Dh (Mp 2 m) 0).2.2=true∧(XG Dg Dh (Mp 2 m) 0).1=_∧(XG Dg Dh (Mp 2 m) 0).2.1=_
  rw [this]; exact ⟨rfl,rfl,rfl⟩
 ·rw [Yn]
  rcases h with rfl | rfl <;> decide +kernel
theorem fj:Bm exA exB (Mp 3 2) 0=21:=by
 unfold Bm
 rw [if_pos (Gh.1 (by decide)),if_pos (gS (by decide +kernel)),if_neg]
 rintro ⟨k,hk,h1,h2⟩
 have hk:k<2:=hk
 have e0:Qb Dg Dh 1 3=(v0,false):=MC (by decide +kernel)
 have e1:Qb Dg Dh 2 2=(⟨-3 / 5,-4 / 5⟩,true):=MD (by unfold Rb; decide) (by decide +kernel)
 match k,hk with
 | 0,_ =>
  have:(Qb Dg Dh 1 3).2=true:=h1
  rw [e0] at this; cases this
 | 1,_ =>
  have:(Qb Dg Dh 2 2).1=exT:=h2
  rw [e1,V2.ext'] at this
  exact absurd this.1 (by decide +kernel)
theorem fi:GV exA exB (Mp 2 2)=10:=by
 unfold GV
 rw [if_pos (Gh.1 (by decide))]
 decide +kernel
open Classical in
theorem fh:Mp 2 2∈BS exA exB 0:=by
 refine List.mem_filter.2 ⟨Yl (IR 2 (.inr rfl)) rfl rfl (by decide) (by decide),?_⟩
 rw [Bool.not_eq_true',Bool.eq_false_iff]
 intro h
 unfold Eh at h
 obtain ⟨g,hg,hp⟩:=List.any_eq_true.1 h
 have hp:Db 5 5 (Mp 2 2) g:=of_decide_eq_true hp
 have hc:=H5 hg (by decide) (by decide)
 obtain ⟨_,_,_,⟨ha,_⟩,_⟩:=(HT exA exB g 0).1 hc
 obtain ⟨_,_,q1,q2,q3,q4,q5⟩:=Ip hg (by decide) (by decide)
 obtain ⟨A,B,EA,EB,M,t,lo,hi⟩:=g
 have q1:0≤EA∧EA<5:=q1
 have q2:0≤EB∧EB<5:=q2
 have q4:M<5:=q4
 obtain ⟨p1,p2,p3,p4⟩:=hp
 have p1:2<M:=p1
 have p2:(1 - EA) % 5+2≤M:=p2
 have p3:(EB - (1 - EA) % 5) % 5=2:=p3
 have p4:exT=t:=p4
 subst p4
 have key:∀ (i:Nat),i≤M.toNat→Zh Dg Dh ⟨0,0,EA,EB,0,exT,v0,v0⟩ i=Zh Dg Dh ⟨0,0,EA,EB,0,exT,v0,v0⟩ 0:=fun i h=>WJ ha i 0 h (by omega)
 have k3:=key 3 (by omega)
 have k4:=fun h=>key 4 h
 have c:(EA=1∧EB=2)∨(EA=0∧EB=3)∨(EA=4∧EB=4∧M=4):=by omega
 rcases c with ⟨rfl,rfl⟩ | ⟨rfl,rfl⟩ | ⟨rfl,rfl,rfl⟩
 ·exact absurd k3 (by rw [V2.ext']; decide +kernel)
 ·exact absurd k3 (by rw [V2.ext']; decide +kernel)
 ·exact absurd (k4 (by decide)) (by rw [V2.ext']; decide +kernel)
end Go.Ab.N
namespace Go.Ab.N
open Go Go.RowKit Go.Proofs
noncomputable section
set_option maxRecDepth 10000
set_option maxHeartbeats 4000000
open Classical
theorem mu (p:Int×Int):(Kd p).length=2:=rfl
theorem Gs (R:List (Int×Int)) (n m:Nat) (t:Bool) (l:List AV) (hl:l=R.flatMap Kd) (hn:n=R.length) (hm:m=R.length*2) (h0:0<R.length):Weak (.sl n m (Xp l) t) (Dj R):=by
 subst hn hm hl
 rw [Xf]
 exact AN (by rfl) (Nat.le_refl _) fun j hj=>by rw [MV Kd 2 (0,0) (by omega) mu R j hj]; exact Weak.rfl' _
theorem OV (t:Bool):WeakL [.bool false,.sl 0 0 (fun _=>.any) t,.bool false,.sl 0 0 (fun _=>.any) t] (qC 0) :=
 have h1:Xb (0:Rat).num.natAbs=[]:=by rw [Rat.zero_num]; simp [XY]
 have h2:Xb (qd (0:Rat))=[]:=CR rfl
 ⟨Weak.rfl' _,Qv h1,Weak.rfl' _,Qv h2,trivial⟩
def Rs (W:List FV) (f:FV) (j:Nat):Bool:=(W.take j).any fun g=>decide (g=f)
theorem ac (W:List FV) (f:FV) (j:Nat) (h:j<W.length):Rs W f (j+1)=(Rs W f j || decide (W.getD j ZG=f)):=by
 unfold Rs
 rw [List.take_succ_eq_append_getElem h,List.any_append,List.getD_eq_getElem?_getD,List.getElem?_eq_getElem h]
 simp
theorem gh {W:List FV} {f:FV} (h:f∈W):Rs W f W.length=true:=by
 unfold Rs
 rw [List.take_length,List.any_eq_true]
 exact ⟨f,h,by simp⟩
theorem j9 (t:Bool):WeakL [.bool (decide (exT.x.num<0)),X8 (Xb exT.x.num.natAbs),.bool false,X8 (Xb (qd exT.x)),.bool false,.sl 0 0 (fun _=>.any) t,.bool false,.sl 0 0 (fun _=>.any) t] (vC exT):=by
 obtain ⟨u1,u2,u3,u4,_⟩:=OV t
 exact ⟨Weak.rfl' _,Weak.rfl' _,Weak.rfl' _,Weak.rfl' _,u1,u2,u3,u4,trivial⟩
theorem iZ (t:Bool):WeakL [I 0,I 1,I 1,I 2,I 2,.bool (decide (exT.x.num<0)),X8 (Xb exT.x.num.natAbs),.bool false,X8 (Xb (qd exT.x)),.bool false,.sl 0 0 (fun _=>.any) t,.bool false,.sl 0 0 (fun _=>.any) t,
  .bool false,.sl 0 0 (fun _=>.any) t,.bool false,.sl 0 0 (fun _=>.any) t,.bool false,.sl 0 0 (fun _=>.any) t,.bool false,.sl 0 0 (fun _=>.any) t,.bool false,.sl 0 0 (fun _=>.any) t,.bool false,.sl 0 0 (fun _=>.any) t,.bool false,.sl 0 0 (fun _=>.any) t,.bool false,.sl 0 0 (fun _=>.any) t] (XW l7):=by
 obtain ⟨u1,u2,u3,u4,_⟩:=OV t
 obtain ⟨w1,w2,w3,w4,w5,w6,w7,w8,_⟩:=Gt t
 exact ⟨Weak.rfl' _,Weak.rfl' _,Weak.rfl' _,Weak.rfl' _,Weak.rfl' _,Weak.rfl' _,Weak.rfl' _,Weak.rfl' _,Weak.rfl' _,u1,u2,u3,u4,w1,w2,w3,w4,w5,w6,w7,w8,w1,w2,w3,w4,w5,w6,w7,w8,trivial⟩
theorem j8 (t:Bool):WeakL ([I 0,I 1,I 1,I 2,I 2,.bool (decide (exT.x.num<0)),X8 (Xb exT.x.num.natAbs),.bool false,X8 (Xb (qd exT.x)),.bool false,.sl 0 0 (fun _=>.any) t,.bool false,.sl 0 0 (fun _=>.any) t] ++ (vC ⟨4,4⟩ ++ vC ⟨4,4⟩)) (XW (Mp 2 2)):=by
 obtain ⟨u1,u2,u3,u4,_⟩:=OV t
 exact ⟨Weak.rfl' _,Weak.rfl' _,Weak.rfl' _,Weak.rfl' _,Weak.rfl' _,Weak.rfl' _,Weak.rfl' _,Weak.rfl' _,Weak.rfl' _,u1,u2,u3,u4,Weak.rfl' _,Weak.rfl' _,Weak.rfl' _,Weak.rfl' _,Weak.rfl' _,Weak.rfl' _,Weak.rfl' _,Weak.rfl' _,Weak.rfl' _,Weak.rfl' _,Weak.rfl' _,Weak.rfl' _,Weak.rfl' _,Weak.rfl' _,Weak.rfl' _,Weak.rfl' _,trivial⟩
theorem pZ:(⟨((4:Int):Rat),((4:Int):Rat)⟩:V2)=⟨4,4⟩:=by rw [V2.ext']; exact ⟨by decide +kernel,by decide +kernel⟩
theorem HX (eb m:Int):(Mp eb m).fine:=⟨by show vb exT≤60; decide +kernel,by show vb ⟨4,4⟩≤300; decide +kernel,by show vb ⟨4,4⟩≤300; decide +kernel⟩
theorem U4:Fn Tryz.prog 49 [] (.bool true):=by
 have cA:=Lj Dg (by decide)
 have cB:=Lj Dh (by decide)
 rw [show C7 Dg=exA from rfl] at cA
 rw [show C7 Dh=exB from rfl] at cB
 have a1:=CL exA exB 1 2 (by decide) (by decide) exA_gp.even.near exB_gp.even.near
 rw [show Qb exA.rim exB.rim 1 2=(exT,true) from TV] at a1
 have a2:=CL exA exB 0 2 (by decide) (by decide) exA_gp.even.near exB_gp.even.near
 rw [show Qb exA.rim exB.rim 0 2=(v0,false) from q7] at a2
 have o1:=Jg (-1) 1 ⟨by omega,by omega⟩ ⟨by omega,by omega⟩
 have q0:=A4
 have g1:=Il exA exB l7 exA_gp.even exB_gp.even (by show vb exT≤1000; decide +kernel) exA_gp.tol exB_gp.tol (by omega) (by omega)
 rw [show XG exA.rim exB.rim l7 (0+0)=(⟨4,4⟩,⟨4,4⟩,true) from by rw [show (0:Rat)+0=0 by decide +kernel]; exact fg] at g1
 have hT:vb exT≤60:=by decide +kernel
 have s1:=A6 exT exT (by unfold vm; omega) (by unfold vm; omega)
 rw [decide_eq_true rfl] at s1
 have of1:=ZL 4 4 ⟨by omega,by omega⟩ ⟨by omega,by omega⟩
 rw [pZ] at of1
 have hc0:vb ⟨4,4⟩≤60:=by decide +kernel
 have hc:vb ⟨4,4⟩≤vm:=by unfold vm; omega
 have s2:=Fh ⟨4,4⟩ ⟨4,4⟩ hc hc
 rw [decide_eq_true rfl] at s2
 have z0:(0:Rat)+0=0:=by decide +kernel
 have cf:=PR exA exB exA_gp exB_gp
 have hF:=PS exA_gp exB_gp
 rw [z0] at cf hF
 have hfd:=gh fh
 generalize BS exA exB 0=W at *
 have k1:=Ed exA exB (Mp 2 2) exA_gp exB_gp (HX 2 2)
 have k2:=Ed exA exB (Mp 2 1) exA_gp exB_gp (HX 2 1)
 have k3:=Ed exA exB (Mp 3 2) exA_gp exB_gp (HX 3 2)
 rw [z0] at k1 k2 k3
 rw [IR 2 (.inr rfl)] at k1
 rw [IR 1 (.inl rfl)] at k2
 rw [fj] at k3
 have k4:=YJ exA exB (Mp 2 2) exA_gp.even exB_gp.even
 rw [fi] at k4
 have lW:=hF.len
 have fW:=hF.fine
 clear hF
 rw [show Rat.divInt (-1) 1=exT.x by decide +kernel] at o1
 generalize hEA:exA=pa at *
 generalize hEB:exB=pb at *
 refine Fn.intro (fn:=Tryz.f49) Tryz.call49 Tryz.func49 rfl mixed 16 [] [7,8012,80000003,80000008,80000009,16] [] (by kernel_rfl) (Nat.le_of_ble_eq_true rfl) (by simp) (X0 1000 ?_)
 simp (disch:=omega) only [AS.start,↓Xl,wD,↓X2,wA,seval,wE]
 refine Q3 cA ⟨Gs Dg _ _ _ _ rfl rfl rfl (by decide),trivial⟩ ?_
 simp (disch:=omega) only [QW,XH,↓Xl,wD,↓X2,wA,seval,wE]
 refine Q3 cB ⟨Gs Dh _ _ _ _ rfl rfl rfl (by decide),trivial⟩ ?_
 simp (disch:=omega) only [QW,XH,↓Xl,wD,↓X2,wA,seval,wE]
 refine X1 a1 rfl ?_
 simp (disch:=omega) only [QW,XH,↓Xl,wD,↓X2,wA,seval,wE]
 refine X1 a2 rfl ?_
 simp (disch:=omega) only [QW,XH,↓Xl,wD,↓X2,wA,seval,wE]
 refine X1 o1 rfl ?_
 simp (disch:=omega) only [QW,XH,↓Xl,wD,↓X2,wA,seval,wE]
 refine Q3 g1 ⟨Weak.rfl' _,Weak.rfl' _,XV (iZ false),trivial⟩ ?_
 simp (disch:=omega) only [↓Xl,wD,↓X2,wA,seval,wE]
 refine Q3 s1 ⟨Weak.rfl' _,XV (j9 false),trivial⟩ ?_
 simp (disch:=omega) only [↓Xl,wD,↓X2,wA,seval,wE]
 refine X1 of1 rfl ?_
 simp (disch:=omega) only [↓Xl,wD,↓X2,wA,seval,wE]
 refine X1 s2 rfl ?_
 simp (disch:=omega) only [↓Xl,wD,↓X2,wA,seval,wE]
 refine X1 s2 rfl ?_
 simp (disch:=omega) only [QW,XH,↓Xl,wD,↓X2,wA,seval,wE]
 refine X1 cf rfl ?_
 simp (disch:=omega) only [↓Xl,wD,↓X2,wA,seval,wE]
 refine Xg (fun i:Nat=>⟨16,[],[.any,.ref 0 0 0,.ref 1 0 0,.any,.any,.any,.any,.ref 4 0 0,.any,.any,.any,HG W,.bool (Rs W (Mp 2 2) i),I i,.any,.any],[],[.con 0 25 (Xp (XH pa)),.con 0 25 (Xp (XH pb)),.con 0 8 (Xp (vC exT)),.row 0 8 (Xp (vC v0)),.con 0 29 (Xp (XW (Mp 2 2))),.con 0 8 (Xp (vC ⟨4,4⟩)),.con 0 8 (Xp (vC ⟨4,4⟩))]⟩) (fun i=>i≤W.length) (fun i=>W.length - i) 0 (by omega)
  (Sub.trans (Q2 0 rfl) (Sub.trans (Q2 1 rfl) (Sub.trans (Gk 4 _ rfl rfl (j8 false)) (Sub.trans (Q2 4 rfl) (Xa rfl (by simp [Xh,XI,I,Rs]) (by simp [Xi]) (by simp [XH,XW,vC,Xf,Xo,X4,I,sg])))))) ?_
 intro i hi next
 by_cases hi2:i<W.length
 ·have x1:=fF W i
  have x2:=nX W i
  have hm:=fW _ (QE (d:=ZG) hi2)
  have hs:=ac W (Mp 2 2) i hi2
  generalize W.getD i ZG=f at *
  have cs:=Lp f (Mp 2 2) hm (HX 2 2)
  generalize decide (f=Mp 2 2)=D at *
  generalize Rs W (Mp 2 2) i=B0 at *
  cases B0
  ·refine X0 1000 ?_
   simp (disch:=omega) only [x1,x2,XI,XW,List.cons_append,List.nil_append,↓Xl,wD,↓X2,wA,seval,wE]
   refine X1 cs rfl ?_
   simp (disch:=omega) only [XI,↓Xl,wD,↓X2,wA,seval,wE]
   exact next (i+1) _ (by omega) (by omega) (Xa rfl (by simp [Xh,XI,I,hs]) (by simp [Xi]) (by simp [XH,XW,vC,Xf,Xo,X4,I,sg]))
  ·refine X0 1000 ?_
   simp (disch:=omega) only [x1,x2,XI,XW,List.cons_append,List.nil_append,↓Xl,wD,↓X2,wA,seval,wE]
   exact next (i+1) _ (by omega) (by omega) (Xa rfl (by simp [Xh,XI,I,hs]) (by simp [Xi]) (by simp [XH,XW,vC,Xf,Xo,X4,I,sg]))
 obtain rfl:i=W.length:=by omega
 refine X0 1000 ?_
 rw [hfd]
 simp (disch:=omega) only [XI,XH,XW,List.cons_append,List.nil_append,↓Xl,wD,↓X2,wA,seval,wE]
 refine X1 k1 rfl ?_
 simp (disch:=omega) only [XH,XW,List.cons_append,List.nil_append,↓Xl,wD,↓X2,wA,seval,wE]
 refine X1 k2 rfl ?_
 simp (disch:=omega) only [XH,XW,List.cons_append,List.nil_append,↓Xl,wD,↓X2,wA,seval,wE]
 refine X1 k3 rfl ?_
 simp (disch:=omega) only [XH,XW,List.cons_append,List.nil_append,↓Xl,wD,↓X2,wA,seval,wE]
 refine X1 k4 rfl ?_
 simp (disch:=omega) only [↓Xl,wD,↓X2,wA,seval,wE]
 exact Xu rfl rfl (X3 _) rfl
theorem PU {f:FV} (h:f.fine):vb f.turn≤vm∧vb f.lo≤vm∧vb f.hi≤vm:=by
 obtain ⟨h1,h2,h3⟩:=h
 unfold vm
 exact ⟨by omega,by omega,by omega⟩
theorem Rx {n m:Nat} {f:FV} (hn:n≤12) (hm:m≤12) (h:(0≤f.EA∧f.EA<n)∧(0≤f.EB∧f.EB<m)∧1≤f.M∧f.M<n∧f.M<m):f.near:=⟨by omega,by omega,by omega⟩
theorem PT {a b:PV} {e:Rat} {f g:FV} (hf:f∈BS a b e) (hg:g∈BS a b e):¬ Db a.rim.length b.rim.length f g:=fun h=>by
 have h1:=(List.mem_filter.1 hf).2
 rw [Bool.not_eq_true',Bool.eq_false_iff] at h1
 exact h1 (List.any_eq_true.2 ⟨g,(List.mem_filter.1 hg).1,decide_eq_true h⟩)
theorem TX (l m:List Int) (hl:BO l) (hl2:l.length<9223372036854775808) (hm:BO m) (hm2:m.length<9223372036854775808) :
  Fn Tryz.prog 7 [X8 l,X8 m] (.bool true):=by
 obtain ⟨A,B,ta,tb,cP,gA,gB,sA,sB⟩:=aq l m hl hl2 hm hm2
 have co:=PR A B gA gB
 have cr:=Up A B gA gB
 have ho:=PS gA gB
 have pA:=Ib gA; have pB:=Ib gB
 have hsh:∀ f∈BS A B (ta+tb),f.A=0∧f.B=1∧(0≤f.EA∧f.EA<A.rim.length)∧(0≤f.EB∧f.EB<B.rim.length)∧1≤f.M∧f.M<A.rim.length∧f.M<B.rim.length:=fun f hf=>Ip (List.mem_filter.1 hf).1 pA.1 pB.1
 have hnp:∀ f∈BS A B (ta+tb),∀ g∈BS A B (ta+tb),¬ Db A.rim.length B.rim.length f g:=fun f hf g hg=>PT hf hg
 have lL:=ho.len
 have cs:=Sh (BS A B (ta+tb)) (by omega) ho.fine
 generalize BS A B (ta+tb)=L at *
 have bL:JM 2 (HG L)=True:=eq_true (X6 (KS L))
 have bA:XK 2 (.con 0 25 (Xp (XH A)))=True:=eq_true (fun j _=>X6 (Xe (XA A) _))
 have bB:XK 2 (.con 0 25 (Xp (XH B)))=True:=eq_true (fun j _=>X6 (Xe (XA B) _))
 refine Fq Tryz.call7 Tryz.func7 10 [] [8,13] [] (by simp [X7]) (X0 1000 ?_)
 simp (disch:=omega) only [AS.start,↓Xl,wD,↓X2,wA,seval,wE]
 refine X1 cP rfl ?_
 simp (disch:=omega) only [QW,XH,↓Xl,wD,↓X2,wA,seval,wE]
 refine X1 co rfl ?_
 simp (disch:=omega) only [QW,XH,↓Xl,wD,↓X2,wA,seval,wE]
 refine X1 cr rfl ?_
 simp (disch:=omega) only [↓Xl,wD,↓X2,wA,seval,wE]
 refine X1 cs rfl ?_
 simp (disch:=omega) only [↓Xl,wD,↓X2,wA,seval,wE]
 refine Xg (fun i:Nat=>⟨10,[],[.any,.any,.any,.any,.any,.ref 0 0 0,.ref 1 0 0,HG L,I i,.any],[],[.con 0 25 (Xp (XH A)),.con 0 25 (Xp (XH B))]⟩) (fun i=>i≤L.length) (fun i=>L.length - i) 0 (by omega)
  (Sub.trans (Q2 0 rfl) (Sub.trans (Q2 1 rfl) (Xa rfl (by simp [Xh,XI,I]) (by simp [Xi]) (by simp [XH,Xf,Xo,X4,I,sg])))) ?_
 intro i hi next
 by_cases hi2:i<L.length
 rotate_left
 ·refine X0 1000 ?_
  simp (disch:=omega) only [XI,↓Xl,wD,↓X2,wA,seval,wE]
  refine X1 U4 rfl ?_
  simp (disch:=omega) only [↓Xl,wD,↓X2,wA,seval,wE]
  exact Xu rfl rfl (X3 _) rfl
 have hm:=QE (d:=ZG) hi2
 have hf:=ho.fine _ hm
 have h2:=ho.ok _ hm
 obtain ⟨e1,e2,h3⟩:=hsh _ hm
 have hnp:=hnp _ hm
 have x1:=fF L i
 have x2:=nX L i
 generalize L.getD i ZG=f at *
 have c2:=Ed A B f gA gB hf
 rw [h2] at c2
 have nf:f.near:=Rx pA.2 pB.2 h3
 refine X0 1000 ?_
 simp (disch:=omega) only [x1,x2,XI,XH,XW,↓Xl,wD,↓X2,wA,seval,wE]
 refine X1 c2 rfl ?_
 simp (disch:=omega) only [e1,e2,x1,x2,XI,XH,XW,↓Xl,wD,↓X2,wA,seval,wE]
 refine Xg (fun j:Nat=>⟨10,[],[.any,.any,.any,.any,.any,.ref 0 0 0,.ref 1 0 0,HG L,I i,I j],[],[.con 0 25 (Xp (XH A)),.con 0 25 (Xp (XH B))]⟩) (fun j=>j≤L.length) (fun j=>L.length - j) 0 (by omega)
  (Xa rfl (by simp [Xh,XI,I]) (by simp [Xi]) (by simp [XH,Xf,Xo,X4,I,sg])) ?_
 intro j hj nextj
 by_cases hj2:j<L.length
 rotate_left
 ·refine X0 1000 ?_
  simp (disch:=omega) only [XI,↓Xl,wD,↓X2,wA,seval,wE]
  exact next (i+1) _ (by omega) (by omega) (Xa rfl (by simp [Xh,XI,I]) (by simp [Xi]) rfl)
 clear next
 have hm':=QE (d:=ZG) hj2
 have hg:=ho.fine _ hm'
 obtain ⟨_,_,h4⟩:=hsh _ hm'
 have hnp:=hnp _ hm'
 have y1:=fF L j
 have y2:=nX L j
 generalize L.getD j ZG=g at *
 have c3:=VN A B f g (by omega) (by omega) nf (Rx pA.2 pB.2 h4) (PU hf).1 (PU hg).1
 rw [decide_eq_false hnp] at c3
 refine X0 1000 ?_
 simp (disch:=omega) only [x1,x2,y1,y2,XI,XH,XW,↓Xl,wD,↓X2,wA,seval,wE]
 refine X1 c3 rfl ?_
 simp (disch:=omega) only [↓Xl,wD,↓X2,wA,seval,wE]
 exact nextj (j+1) _ (by omega) (by omega) (Xa rfl (by simp [Xh,XI,I]) (by simp [Xi]) rfl)
end
end Go.Ab.N
