/- Contracts of functions, for arguments that fit. -/
import Derived.Test.YtefjhgcndhepeaaGreatC13
import Derived.Test.YtefjhgcndhepeaaGreatC14
import Derived.Test.YtefjhgcndhepeaaGreatC12
set_option linter.unusedSimpArgs false
set_option linter.unusedVariables false
open Nat renaming reducePow → Y1, reduceLT → Y2, reduceLeDiff → Y3, reduceEqDiff → Y4, reduceAdd → Y5, reduceMul → Y6, reduceSub → Y7, reduceBEq → Y8, reduceDiv → Y9, reduceMod → YA
namespace Go.Ab.N
open Go Go.RowKit Go.Proofs
noncomputable section
set_option maxRecDepth 10000
set_option maxHeartbeats 4000000
open Classical
theorem M5 {R:List (Int×Int)} (hn:QY R) (k:Nat):((0≤(DG R k).1*(DG R k).1∧(DG R k).1*(DG R k).1≤17179869184)∧(0≤(DG R k).2*(DG R k).2∧(DG R k).2*(DG R k).2≤17179869184))∧0≤To R k∧To R k≤34359738368:=by
 have h0:=Cs hn k
 unfold To
 generalize DG R k=D at *
 have key:∀ x:Int,-131072≤x∧x≤131072→0≤x*x∧x*x≤17179869184:=fun x hx=>by
  rcases Int.le_total 0 x with h | h
  ·exact ⟨Int.mul_nonneg h h,Int.mul_le_mul hx.2 hx.2 h (by omega)⟩
  ·have:=Int.mul_le_mul (show -x≤131072 by omega) (show -x≤131072 by omega) (by omega) (by omega)
   rw [Int.neg_mul_neg] at this
   exact ⟨Int.mul_nonneg_of_nonpos_of_nonpos h h,this⟩
 have h1:=key D.1 h0.1
 have h2:=key D.2 h0.2
 omega
def kg (a b:PV) (f:FV) (k:Nat):Int:=if a.marks.getD (xK a.rim.length f k) 0≠0∧a.marks.getD (xK a.rim.length f k) 0=b.marks.getD (yK b.rim.length f k) 0 then 1000 else 0
def FJ (a b:PV) (f:FV):Nat→Int
 | 0=>0
 | k+1=>FJ a b f k+To a.rim (xK a.rim.length f k)+kg a b f k
def BP (a b:PV) (f:FV):Int:=if AB a.rim.length b.rim.length f then FJ a b f f.M.toNat else 0
theorem Ho {a:PV} (b:PV) (f:FV) (hn:QY a.rim):∀ k:Nat,0≤FJ a b f k∧FJ a b f k≤34359739368*k
 | 0=>by simp [FJ]
 | k+1=>by
  have ih:=Ho b f hn k
  have h:=(M5 hn (xK a.rim.length f k)).2
  have h2:0≤kg a b f k∧kg a b f k≤1000:=by unfold kg; split <;> omega
  simp only [FJ]
  omega
theorem Nk (a b:PV) (f:FV) (ha:a.even) (hb:b.even):Fn Tryz.prog 62 [QH a,QH b,Jx f] (I (BP a b f)):=by
 have la:=ha.rim; have lb:=hb.rim
 have cs:=DL a b f la lb
 obtain ⟨V,hV⟩:∃ V,V=BP a b f:=⟨_,rfl⟩
 rw [← hV]
 have fin:∀ {s:AS} {v:Int},s.get 6=I v→v=V→RetOk (QI Tryz.prog Tryz.f62 [] [] (I V)) s:=fun h e=>Xt rfl h (X9 _) (by rw [e])
 by_cases hf:AB a.rim.length b.rim.length f
 rotate_left
 ·rw [decide_eq_false hf] at cs
  refine Fq Tryz.call62 Tryz.func62 11 [19,20,21] [] [] (by simp [Xx,XP]) (X0 1000 ?_)
  simp (disch:=omega) only [AS.start,QH,XD,Jx,XJ,↓Xw,wG,seval]
  refine X1 cs rfl ?_
  simp (disch:=omega) only [↓Xw,wG,seval]
  exact fin rfl (by rw [hV]; unfold BP; rw [if_neg hf])
 rw [decide_eq_true hf] at cs
 have ce:=G0 a b f hf la lb
 have hVe:V=FJ a b f f.M.toNat:=by rw [hV]; unfold BP; rw [if_pos hf]
 obtain ⟨⟨s1,s2⟩,⟨s3,s4⟩,s5,s6,s7⟩:=hf
 obtain ⟨N,hN⟩:∃ N:Nat,f.M=N:=⟨f.M.toNat,by omega⟩
 rw [hN,Int.toNat_natCast] at hVe
 obtain ⟨L,hL⟩:∃ L,L=DH a.rim.length b.rim.length f:=⟨_,rfl⟩
 have hlen:L.length=N:=by rw [hL,BC,hN]; rfl
 have hat:∀ k,k<N→L.getD k (0,0)=((xK a.rim.length f k:Int),(yK b.rim.length f k:Int)):=fun k hk=>by rw [hL]; exact EL _ _ _ _ (by omega)
 rw [← hL] at ce
 clear hL
 have ba:XK 3 (.row 0 25 (Xo (XD a)))=True:=eq_true (XH (Xy a))
 have bb:XK 3 (.row 0 25 (Xo (XD b)))=True:=eq_true (XH (Xy b))
 have bf:XK 3 (.row 0 29 (Xo (XJ f)))=True:=eq_true (XH (XM f))
 have bL:JJ 3 (Dw L)=True:=eq_true (X6 (QG _))
 refine Fq Tryz.call62 Tryz.func62 11 [19,20,21] [] [] (by simp [Xx,XP]) (X0 1000 ?_)
 simp (disch:=omega) only [AS.start,QH,XD,Jx,XJ,↓Xw,wG,seval]
 refine X1 cs rfl ?_
 simp (disch:=omega) only [XD,XJ,↓Xw,wG,seval]
 refine X1 ce rfl ?_
 simp (disch:=omega) only [Xe,hlen,↓Xw,wG,seval]
 refine Xg (fun k:Nat=>⟨11,[19,20,21],[.any,.any,.any,.ref 0 0 0,.ref 1 0 0,.ref 2 0 0,.any,I (FJ a b f k),.any,.any,.any],[(19,Dw L),(20,I N),(21,I k)],[.row 0 25 (Xo (XD a)),.row 0 25 (Xo (XD b)),.row 0 29 (Xo (XJ f))]⟩) (fun k=>k≤N) (fun k=>N - k) 0 (by omega)
  (Xa rfl (by simp [Xh,I,FJ]) (by simp [Xi,Xz,Xe,hlen,I]) (by simp [XD,XJ,Xe,Xl,X4,I,sg])) ?_
 intro k hk next
 by_cases hk2:k<N
 rotate_left
 ·obtain rfl:k=N:=by omega
  refine X0 1000 ?_
  simp (disch:=omega) only [↓Xw,wG,seval]
  exact fin rfl hVe.symm
 have hx:=O7 a.rim.length f k (by omega)
 have hy:=WF b.rim.length f k (by omega)
 have cq:=Fy a (xK a.rim.length f k) hx la ha.near
 have bq:=(M5 ha.near (xK a.rim.length f k)).2
 have bn:=Ho b f ha.near k
 have v1:=iN L k
 rw [hat k hk2] at v1
 have hnext:FJ a b f (k+1)=FJ a b f k+To a.rim (xK a.rim.length f k)+kg a b f k:=rfl
 have hsc:kg a b f k=if a.marks.getD (xK a.rim.length f k) 0≠0∧a.marks.getD (xK a.rim.length f k) 0=b.marks.getD (yK b.rim.length f k) 0 then 1000 else 0:=rfl
 have ea:=ha.marks; have eb:=hb.marks
 generalize To a.rim (xK a.rim.length f k)=Q at *
 generalize xK a.rim.length f k=X at *
 generalize yK b.rim.length f k=Y at *
 have w1:IntKind.i64.wrap (FJ a b f k+Q)=FJ a b f k+Q:=by rw [IntKind.wrap_i64]; omega
 have w2:IntKind.i64.wrap (FJ a b f k+Q+1000)=FJ a b f k+Q+1000:=by rw [IntKind.wrap_i64]; omega
 have c0:∀ c,kg a b f k=c→FJ a b f (k+1)=FJ a b f k+Q+c:=fun c hc=>by rw [hnext,hc]
 have t1:(1:Int).toNat=1:=rfl
 by_cases h0:a.marks.getD X 0=0
 ·have e:=c0 0 (by rw [hsc,if_neg (fun h=>h.1 h0)])
  rw [Int.add_zero] at e
  refine X0 1000 ?_
  simp (disch:=omega) only [v1,w1,hlen,Xe,XD,XJ,X4,↓Xw,wG,seval]
  refine X1 cq rfl ?_
  simp (disch:=omega) only [v1,w1,hlen,eq_true h0,Xe,XD,XJ,X4,↓Xw,wG,seval]
  exact next (k+1) _ (by omega) (by omega) (Xr (m:=3) (Nat.zero_le _) rfl (by simp [Xh,I,e]) (by simp [Xi,Xz,Xe,hlen,I]) (by simp [XD,XJ,Xe,Xl,X4,I,sg]) (by simp [Xv]) (by simp [Xv,bL]) (by simp [ba,bb,bf]))
 by_cases h1:a.marks.getD X 0=b.marks.getD Y 0
 ·have e:=c0 1000 (by rw [hsc,if_pos ⟨h0,h1⟩])
  refine X0 1000 ?_
  simp (disch:=omega) only [v1,w1,hlen,Xe,XD,XJ,X4,↓Xw,wG,seval]
  refine X1 cq rfl ?_
  simp (disch:=omega) only [v1,w1,w2,t1,hlen,eq_false h0,eq_true h1,Xe,XD,XJ,X4,↓Xw,wG,seval]
  exact next (k+1) _ (by omega) (by omega) (Xr (m:=3) (Nat.zero_le _) rfl (by simp [Xh,I,e]) (by simp [Xi,Xz,Xe,hlen,I]) (by simp [XD,XJ,Xe,Xl,X4,I,sg]) (by simp [Xv]) (by simp [Xv,bL]) (by simp [ba,bb,bf]))
 ·have e:=c0 0 (by rw [hsc,if_neg (fun h=>h1 h.2)])
  rw [Int.add_zero] at e
  refine X0 1000 ?_
  simp (disch:=omega) only [v1,w1,hlen,Xe,XD,XJ,X4,↓Xw,wG,seval]
  refine X1 cq rfl ?_
  simp (disch:=omega) only [v1,w1,w2,t1,hlen,eq_false h0,eq_false h1,Xe,XD,XJ,X4,↓Xw,wG,seval]
  exact next (k+1) _ (by omega) (by omega) (Xr (m:=3) (Nat.zero_le _) rfl (by simp [Xh,I,e]) (by simp [Xi,Xz,Xe,hlen,I]) (by simp [XD,XJ,Xe,Xl,X4,I,sg]) (by simp [Xv]) (by simp [Xv,bL]) (by simp [ba,bb,bf]))
theorem bu (a b:PV) (f:FV) (ha:a.even) (hb:b.even):Fn Tryz.prog 63 [QH a,QH b,Jx f] (I (BP a b f)):=by
 have la:=ha.rim; have lb:=hb.rim
 have cs:=E5 a b f la lb
 obtain ⟨V,hV⟩:∃ V,V=BP a b f:=⟨_,rfl⟩
 rw [← hV]
 have fin:∀ {s:AS} {v:Int},s.get 6=I v→v=V→RetOk (QI Tryz.prog Tryz.f63 [9,100000003,11,120000003,120000004,120000005] [] (I V)) s:=fun h e=>Xt rfl h (X9 _) (by rw [e])
 by_cases hf:AB a.rim.length b.rim.length f
 rotate_left
 ·rw [decide_eq_false hf] at cs
  refine Fq Tryz.call63 Tryz.func63 12 [] [9,100000003,11,120000003,120000004,120000005] [] (by simp [Xx,XP]) (X0 1000 ?_)
  simp (disch:=omega) only [AS.start,QH,XD,Jx,XJ,↓Xw,wG,seval]
  refine X1 cs rfl ?_
  simp (disch:=omega) only [↓Xw,wG,seval]
  exact fin rfl (by rw [hV]; unfold BP; rw [if_neg hf])
 rw [decide_eq_true hf] at cs
 have hVe:V=FJ a b f f.M.toNat:=by rw [hV]; unfold BP; rw [if_pos hf]
 obtain ⟨⟨s1,s2⟩,⟨s3,s4⟩,s5,s6,s7⟩:=hf
 obtain ⟨N,hN⟩:∃ N:Nat,f.M=N:=⟨f.M.toNat,by omega⟩
 rw [hN,Int.toNat_natCast] at hVe
 have ba:XK 3 (.con 0 25 (Xo (XD a)))=True:=eq_true (fun j _=>X6 (Xc (Xy a) _))
 have bb:XK 3 (.con 0 25 (Xo (XD b)))=True:=eq_true (fun j _=>X6 (Xc (Xy b) _))
 have bf:XK 3 (.con 0 29 (Xo (XJ f)))=True:=eq_true (fun j _=>X6 (Xc (XM f) _))
 refine Fq Tryz.call63 Tryz.func63 12 [] [9,100000003,11,120000003,120000004,120000005] [] (by simp [Xx,XP]) (X0 1000 ?_)
 simp (disch:=omega) only [AS.start,QH,XD,Jx,XJ,↓Xw,wG,seval]
 refine X1 cs rfl ?_
 simp (disch:=omega) only [↓Xw,wG,seval]
 refine Xg (fun k:Nat=>⟨12,[],[.any,.any,.any,.ref 0 0 0,.ref 1 0 0,.ref 2 0 0,.any,I (FJ a b f k),I k,.any,.any,.any],[],[.con 0 25 (Xo (XD a)),.con 0 25 (Xo (XD b)),.con 0 29 (Xo (XJ f))]⟩) (fun k=>k≤N) (fun k=>N - k) 0 (by omega)
  (Sub.trans (XR 0 rfl) (Sub.trans (XR 1 rfl) (Sub.trans (XR 2 rfl) (Xa rfl (by simp [Xh,I,FJ]) (by simp [Xi]) (by simp [XD,XJ,Xe,Xl,X4,I,sg]))))) ?_
 intro k hk next
 by_cases hk2:k<N
 rotate_left
 ·obtain rfl:k=N:=by omega
  refine X0 1000 ?_
  simp (disch:=omega) only [hN,XJ,↓Xw,wG,seval]
  exact fin rfl hVe.symm
 have hx:=O7 a.rim.length f k (by omega)
 have hy:=WF b.rim.length f k (by omega)
 have ex:=GS a.rim.length f k (by omega)
 have ey:=Mn b.rim.length f k (by omega)
 have c1:=Q4 (f.EA+(k:Int)) a.rim.length (by omega) (by omega) (by omega)
 have c2:=Q4 (f.EB - (k:Int)) b.rim.length (by omega) (by omega) (by omega)
 rw [ex] at c1
 rw [ey] at c2
 have bd:=M5 ha.near (xK a.rim.length f k)
 have bn:=Ho b f ha.near k
 have hnext:FJ a b f (k+1)=FJ a b f k+((DG a.rim (xK a.rim.length f k)).1*(DG a.rim (xK a.rim.length f k)).1+(DG a.rim (xK a.rim.length f k)).2*(DG a.rim (xK a.rim.length f k)).2)+kg a b f k:=rfl
 have hsc:kg a b f k=if a.marks.getD (xK a.rim.length f k) 0≠0∧a.marks.getD (xK a.rim.length f k) 0=b.marks.getD (yK b.rim.length f k) 0 then 1000 else 0:=rfl
 have hed:=Cs ha.near (xK a.rim.length f k)
 have ea:=ha.marks; have eb:=hb.marks
 clear ex ey
 generalize xK a.rim.length f k=X at *
 generalize yK b.rim.length f k=Y at *
 have hD1:(a.rim.getD ((X+1) % a.rim.length) (0,0)).1 - (a.rim.getD X (0,0)).1=(DG a.rim X).1:=rfl
 have hD2:(a.rim.getD ((X+1) % a.rim.length) (0,0)).2 - (a.rim.getD X (0,0)).2=(DG a.rim X).2:=rfl
 have v1:=iN a.rim X
 have v2:=iN a.rim ((X+1) % a.rim.length)
 have r3:((X+1:Nat):Int).tmod a.rim.length=(((X+1) % a.rim.length:Nat):Int):=rfl
 have hm:(X+1) % a.rim.length<a.rim.length:=Nat.mod_lt _ (by omega)
 have w2:=wj X (by omega)
 generalize (X+1) % a.rim.length=Z at *
 generalize DG a.rim X=D at *
 have wx:IntKind.i64.wrap (f.EA+(k:Int))=f.EA+(k:Int):=by rw [IntKind.wrap_i64]; omega
 have wy:IntKind.i64.wrap (f.EB - (k:Int))=f.EB - (k:Int):=by rw [IntKind.wrap_i64]; omega
 have w3:IntKind.i64.wrap D.1=D.1:=by rw [IntKind.wrap_i64]; omega
 have w4:IntKind.i64.wrap D.2=D.2:=by rw [IntKind.wrap_i64]; omega
 have w5:IntKind.i64.wrap (D.1*D.1)=D.1*D.1:=by rw [IntKind.wrap_i64]; omega
 have w6:IntKind.i64.wrap (D.2*D.2)=D.2*D.2:=by rw [IntKind.wrap_i64]; omega
 have w7:IntKind.i64.wrap (FJ a b f k+D.1*D.1)=FJ a b f k+D.1*D.1:=by rw [IntKind.wrap_i64]; omega
 have w8:IntKind.i64.wrap (FJ a b f k+D.1*D.1+D.2*D.2)=FJ a b f k+D.1*D.1+D.2*D.2:=by rw [IntKind.wrap_i64]; omega
 have w9:IntKind.i64.wrap (FJ a b f k+D.1*D.1+D.2*D.2+1000)=FJ a b f k+D.1*D.1+D.2*D.2+1000:=by rw [IntKind.wrap_i64]; omega
 have c0:∀ c,kg a b f k=c→FJ a b f (k+1)=FJ a b f k+D.1*D.1+D.2*D.2+c:=fun c hc=>by rw [hnext,hc]; omega
 by_cases h0:a.marks.getD X 0=0
 ·have e:=c0 0 (by rw [hsc,if_neg (fun h=>h.1 h0)])
  rw [Int.add_zero] at e
  refine X0 1000 ?_
  simp (disch:=omega) only [wx,hN,XD,XJ,↓Xw,wG,seval]
  refine X1 c1 rfl ?_
  simp (disch:=omega) only [wx,wy,v1,v2,r3,hD1,hD2,w2,w3,w4,w5,w6,w7,w8,eq_true h0,Xe,XD,XJ,X4,↓Xw,wG,seval]
  exact next (k+1) _ (by omega) (by omega) (Xr (m:=3) (Nat.zero_le _) rfl (by simp [Xh,I,e]) (by simp [Xi]) (by simp [XD,XJ,hN,Xe,Xl,X4,I,sg]) (by simp [Xv]) (by simp [Xv]) (by simp [ba,bb,bf]))
 by_cases h1:a.marks.getD X 0=b.marks.getD Y 0
 ·have e:=c0 1000 (by rw [hsc,if_pos ⟨h0,h1⟩])
  refine X0 1000 ?_
  simp (disch:=omega) only [wx,hN,XD,XJ,↓Xw,wG,seval]
  refine X1 c1 rfl ?_
  simp (disch:=omega) only [wx,wy,v1,v2,r3,hD1,hD2,w2,w3,w4,w5,w6,w7,w8,eq_false h0,Xe,XD,XJ,X4,↓Xw,wG,seval]
  refine X1 c2 rfl ?_
  simp (disch:=omega) only [w9,eq_true h1,Xe,XD,XJ,X4,↓Xw,wG,seval]
  exact next (k+1) _ (by omega) (by omega) (Xr (m:=3) (Nat.zero_le _) rfl (by simp [Xh,I,e]) (by simp [Xi]) (by simp [XD,XJ,hN,Xe,Xl,X4,I,sg]) (by simp [Xv]) (by simp [Xv]) (by simp [ba,bb,bf]))
 ·have e:=c0 0 (by rw [hsc,if_neg (fun h=>h1 h.2)])
  rw [Int.add_zero] at e
  refine X0 1000 ?_
  simp (disch:=omega) only [wx,hN,XD,XJ,↓Xw,wG,seval]
  refine X1 c1 rfl ?_
  simp (disch:=omega) only [wx,wy,v1,v2,r3,hD1,hD2,w2,w3,w4,w5,w6,w7,w8,eq_false h0,Xe,XD,XJ,X4,↓Xw,wG,seval]
  refine X1 c2 rfl ?_
  simp (disch:=omega) only [w9,eq_false h1,Xe,XD,XJ,X4,↓Xw,wG,seval]
  exact next (k+1) _ (by omega) (by omega) (Xr (m:=3) (Nat.zero_le _) rfl (by simp [Xh,I,e]) (by simp [Xi]) (by simp [XD,XJ,hN,Xe,Xl,X4,I,sg]) (by simp [Xv]) (by simp [Xv]) (by simp [ba,bb,bf]))
end
end Go.Ab.N
namespace Go.Ab.N
open Go Go.RowKit Go.Proofs
set_option maxRecDepth 10000
set_option maxHeartbeats 4000000
def re (a b c p:V2):Bool:=decide (0≤Jg a b p) && decide (0≤Jg b c p) && decide (0≤Jg c a p)
def gw (L:List V2) (a b c k:Nat):Bool:=decide (k=a) || decide (k=c) || decide (k=b) || !re (L.getD a v0) (L.getD b v0) (L.getD c v0) (L.getD k v0)
def lY (L:List V2) (R:List Nat) (p:Nat):Bool:=decide (0<Hp L R p) && (List.range R.length).all fun j=>gw L (nr R (p+R.length - 1)) (R.getD p 0) (nr R (p+R.length+1)) (R.getD j 0)
theorem gQ (a b c p:V2):re a b c p=true↔cM a b c p:=by
 unfold re cM
 simp only [Bool.and_eq_true,decide_eq_true_eq,and_assoc]
theorem Nj (L:List V2) (a b c k:Nat):gw L a b c k=true↔AM L a b c k:=by
 unfold gw AM
 rw [← gQ]
 simp only [Bool.or_eq_true,decide_eq_true_eq,or_assoc,Bool.not_eq_true',Bool.not_eq_true]
open Classical in
theorem lZ (L:List V2) (R:List Nat) (p:Nat):B6 L R p=lY L R p:=by
 unfold B6 lY
 rw [Bool.eq_iff_iff,decide_eq_true_eq,Bool.and_eq_true,decide_eq_true_eq,List.all_eq_true]
 refine and_congr_right fun _=>⟨fun h j hj=>(Nj _ _ _ _ _).2 (h j (List.mem_range.1 hj)),fun h j hj=>(Nj _ _ _ _ _).1 (h j (List.mem_range.2 hj))⟩
def VJ (L:List V2) (R:List Nat):Nat:=(List.range (R.length - 1)).findIdx (lY L R)
theorem fy (L:List V2) (R:List Nat):FZ L R=VJ L R:=by
 unfold FZ VJ
 rw [show B6 L R=lY L R from funext (lZ L R)]
def gk (L:List V2) (R:List Nat):Nat:=(List.range R.length).findIdx fun p=>decide (Hp L R p=0)
theorem gl (L:List V2) (R:List Nat):KP L R=gk L R:=by
 rfl
def lF (L:List V2):Nat→List Nat→List Nat
 | 0,R=>R
 | f+1,R=>if 3<R.length∧gk L R<R.length then lF L f (R.eraseIdx (gk L R)) else R
theorem VA (L:List V2):∀ (f:Nat) (R:List Nat),Z9 L f R=lF L f R
 | 0,_=>rfl
 | f+1,R=>by
  unfold Z9 lF
  rw [gl,VA L f]
def lQ (L:List V2):Nat→List Nat→List (Nat×Nat×Nat)
 | 0,R=>[(R.getD 0 0,R.getD 1 0,R.getD 2 0)]
 | f+1,R=>if 3<R.length then ES R (VJ L R) :: lQ L f (lF L (R.length - 1) (R.eraseIdx (VJ L R))) else [(R.getD 0 0,R.getD 1 0,R.getD 2 0)]
theorem VE (L:List V2):∀ (f:Nat) (R:List Nat),Bx L f R=lQ L f R
 | 0,_=>rfl
 | f+1,R=>by
  unfold Bx lQ BV
  rw [fy,VA,VE L f]
def Ox (p:PV) (t c:V2):List (List V2):=((lQ (XC p.rim) p.rim.length (List.range p.rim.length)).map (bX (XC p.rim))).map (Kt t c)
theorem N4 (p:PV) (t c:V2):Kh p t c=Ox p t c:=by
 unfold Kh Ox K9 BU
 rw [VE,show (XC p.rim).length=p.rim.length by simp [XC]]
def u7 (n:V2) (A B:List V2) (e:Rat):Bool:=decide (e*Zg n≤Fr n A B)
def iE (A B:List V2) (e:Rat):Bool:=(ZR A B).any fun d=>u7 d A B e
def qg (A B:List (List V2)) (e:Rat):Bool:=A.all fun x=>B.all fun y=>iE x y e
open Classical in
theorem iF (A B:List V2) (e:Rat):(Zv A B e).2=iE A B e:=by
 unfold Zv iE
 rw [Bool.eq_iff_iff,Lh,List.any_eq_true]
 unfold GD u7
 simp only [decide_eq_true_eq]
theorem PD {α:Type} (l:List α) (d:α) (p:α→Bool):(∀ i,i<l.length→p (l.getD i d)=true)↔l.all p=true:=by
 rw [List.all_eq_true]
 constructor
 ·intro h x hx
  obtain ⟨i,hi,rfl⟩:=List.getElem_of_mem hx
  have:=h i hi
  rwa [List.getD_eq_getElem?_getD,List.getElem?_eq_getElem hi] at this
 ·intro h i hi
  rw [List.getD_eq_getElem?_getD,List.getElem?_eq_getElem hi]
  exact h _ (List.getElem_mem hi)
open Classical in
theorem kI (A B:List (List V2)) (e:Rat):I3 A B e=qg A B e:=by
 unfold I3 qg
 rw [Bool.eq_iff_iff,decide_eq_true_eq,← PD A []]
 refine forall_congr' fun i=>forall_congr' fun _=>?_
 unfold IL
 rw [decide_eq_true_eq,← PD B []]
 refine forall_congr' fun k=>forall_congr' fun _=>?_
 unfold Zo
 rw [iF]
def eW (a b:PV) (f:FV) (e:Rat):Bool:=qg (Ox a KQ v0) (Ox b f.turn (Gf f)) (-e)
theorem YN (a b:PV) (f:FV) (e:Rat):KK a b f e=eW a b f e:=by
 unfold KK eW
 rw [kI,N4,N4]
def u9 (n m:Nat) (f:FV):Bool:=decide ((0≤f.EA∧f.EA<n)∧(0≤f.EB∧f.EB<m)∧1≤f.M∧f.M<n∧f.M<m)
theorem GH {n m:Nat} {f:FV}:u9 n m f=true↔AB n m f:=decide_eq_true_iff
def sv (g:Nat→Rat):Nat→Rat
 | 0=>g 0
 | k+1=>if sv g k<g (k+1) then g (k+1) else sv g k
def su (g:Nat→Rat):Nat→Rat
 | 0=>g 0
 | k+1=>if g (k+1)<su g k then g (k+1) else su g k
theorem UC (g:Nat→Rat):∀ k,mZ g k=sv g k
 | 0=>rfl
 | k+1=>by
  unfold mZ sv W1
  rw [UC g k]
theorem UB (g:Nat→Rat):∀ k,mV g k=su g k
 | 0=>rfl
 | k+1=>by
  unfold mV su VZ
  rw [UB g k]
def uh (a b:List (Int×Int)) (f:FV) (k:Nat):V2:=⟨sv (fun j=>(Zr a b f j).x) k,sv (fun j=>(Zr a b f j).y) k⟩
def ug (a b:List (Int×Int)) (f:FV) (k:Nat):V2:=⟨su (fun j=>(Zr a b f j).x) k,su (fun j=>(Zr a b f j).y) k⟩
theorem rn (a b:List (Int×Int)) (f:FV) (k:Nat):Av a b f k=uh a b f k:=by unfold Av uh; rw [UC,UC]
theorem r8 (a b:List (Int×Int)) (f:FV) (k:Nat):At a b f k=ug a b f k:=by unfold At ug; rw [UB,UB]
def Vn (a b:List (Int×Int)) (f:FV) (c:V2):Bool :=
 u9 a.length b.length f && decide (f.turn.x*f.turn.x+f.turn.y*f.turn.y=1) && decide ((uh a b f f.M.toNat).x=c.x) && decide ((uh a b f f.M.toNat).y=c.y) && decide ((ug a b f f.M.toNat).x=c.x) && decide ((ug a b f f.M.toNat).y=c.y)
theorem MX {a b:List (Int×Int)} {f:FV} {c:V2} (h:Vn a b f c=true):XE a b f 0=(c,c,true):=by
 unfold Vn at h
 simp only [Bool.and_eq_true,decide_eq_true_eq] at h
 obtain ⟨⟨⟨⟨⟨h1,h2⟩,h3⟩,h4⟩,h5⟩,h6⟩:=h
 have e1:Av a b f f.M.toNat=c:=by rw [rn,V2.ext']; exact ⟨h3,h4⟩
 have e2:At a b f f.M.toNat=c:=by rw [r8,V2.ext']; exact ⟨h5,h6⟩
 unfold XE
 rw [if_pos ⟨GH.1 h1,h2⟩]
 simp only [e1,e2]
 have z1:c.sub ⟨0,0⟩=c:=by unfold V2.sub; rw [V2.ext']; exact ⟨by simp only; grind,by simp only; grind⟩
 have z2:c.add ⟨0,0⟩=c:=by unfold V2.add; rw [V2.ext']; exact ⟨by simp only; grind,by simp only; grind⟩
 rw [z1,z2,if_neg (fun h=>by rcases h with h | h <;> exact absurd h (Rat.lt_irrefl))]
theorem ir (g:Nat→Rat):∀ n k,k≤n→g k≤mZ g n
 | 0,k,h=>by
  obtain rfl:k=0:=by omega
  exact Rat.le_refl
 | n+1,k,h=>by
  unfold mZ W1
  by_cases hk:k=n+1
  ·subst hk
   split
   ·exact Rat.le_refl
   ·rename_i h; exact Rat.not_lt.1 h
  ·have ih:=ir g n k (by omega)
   split
   ·rename_i h; exact Rat.le_trans ih (Rat.le_of_lt h)
   ·exact ih
theorem il (g:Nat→Rat):∀ n k,k≤n→mV g n≤g k
 | 0,k,h=>by
  obtain rfl:k=0:=by omega
  exact Rat.le_refl
 | n+1,k,h=>by
  unfold mV VZ
  by_cases hk:k=n+1
  ·subst hk
   split
   ·exact Rat.le_refl
   ·rename_i h; exact Rat.not_lt.1 h
  ·have ih:=il g n k (by omega)
   split
   ·rename_i h; exact Rat.le_trans (Rat.le_of_lt h) ih
   ·exact ih
theorem Yg {a b:List (Int×Int)} {f:FV} (h:(XE a b f 0).2.2=true) (i j:Nat) (hi:i≤f.M.toNat) (hj:j≤f.M.toNat):Zr a b f i=Zr a b f j:=by
 obtain ⟨_,_,_,h1,h2⟩:=dZ h
 have z:∀ x y:Rat,x - 0≤y+0→x≤y:=fun x y h=>by grind
 have h1:=z _ _ h1
 have h2:=z _ _ h2
 have t:∀ (g:Nat→Rat),mZ g f.M.toNat≤mV g f.M.toNat→g i=g j:=fun g hg=>by
  have a1:=ir g _ i hi; have a2:=ir g _ j hj; have a3:=il g _ i hi; have a4:=il g _ j hj
  exact Rat.le_antisymm (Rat.le_trans a1 (Rat.le_trans hg a4)) (Rat.le_trans a2 (Rat.le_trans hg a3))
 rw [V2.ext']
 exact ⟨t (fun k=>(Zr a b f k).x) h1,t (fun k=>(Zr a b f k).y) h2⟩
def Ds:List (Int×Int):=[(0,0),(2,0),(3,2),(2,4),(0,4)]
def Dt:List (Int×Int):=[(0,0),(2,0),(1,2),(2,4),(0,4)]
def exA:PV:=Cg Ds
def exB:PV:=Cg Dt
def exT:V2:=⟨-1,0⟩
def mc:FV:=⟨0,1,1,2,2,exT,v0,v0⟩
def MK (eb m:Int):FV:=⟨0,1,1,eb,m,exT,⟨4,4⟩,⟨4,4⟩⟩
theorem NL (R:List (Int×Int)) (h:DZ (XC R)=true) (hn:∀ c∈R,(-65536≤c.1∧c.1≤65536)∧(-65536≤c.2∧c.2≤65536)) (hl:R.length<1000000):GP (Cg R) 0 :=
 ⟨⟨hl,by simp [Cg],by simp [Cg],hn⟩,E0 _ h,rfl,by have:=Ad; omega⟩
theorem exA_gp:GP exA 0:=NL Ds (by decide +kernel) (by decide) (by decide)
theorem exB_gp:GP exB 0:=NL Dt (by decide +kernel) (by decide) (by decide)
theorem ee {a b t:V2} (h:Q9 a a≠0∧Q9 a a=Q9 b b∧Q9 a b / Q9 a a=t.x∧Qq a b / Q9 a a=t.y):J6 a b=(t,0):=by
 obtain ⟨h1,h2,h3,h4⟩:=h
 unfold J6
 rw [if_neg (by rw [← h2]; simp [h1]),if_pos h2]
 rw [Prod.mk.injEq,V2.ext']
 exact ⟨⟨h3,h4⟩,rfl⟩
theorem MZ {a b:List (Int×Int)} {i j:Int} {t:V2} (h:RE a.length b.length i j) (h2:Q9 (KR (B7 b j.toNat)) (KR (B7 b j.toNat))≠0∧Q9 (KR (B7 b j.toNat)) (KR (B7 b j.toNat))=Q9 (B7 a i.toNat) (B7 a i.toNat) ∧
  Q9 (KR (B7 b j.toNat)) (B7 a i.toNat) / Q9 (KR (B7 b j.toNat)) (KR (B7 b j.toNat))=t.x∧Qq (KR (B7 b j.toNat)) (B7 a i.toNat) / Q9 (KR (B7 b j.toNat)) (KR (B7 b j.toNat))=t.y):Qc a b i j=(t,true):=by
 unfold Qc
 rw [if_pos h,ee h2]; rfl
theorem MY {a b:List (Int×Int)} {i j:Int} (h2:Q9 (KR (B7 b j.toNat)) (KR (B7 b j.toNat))≠Q9 (B7 a i.toNat) (B7 a i.toNat)):Qc a b i j=(v0,false):=by
 unfold Qc
 split
 ·obtain ⟨e1,e2⟩:=FO _ _ h2
  rw [e1,decide_eq_false e2]
 ·rfl
theorem Ul:Qc Ds Dt 1 2=(exT,true):=MZ (by unfold RE; decide) (by decide +kernel)
theorem r5:Qc Ds Dt 0 2=(v0,false):=MY (by decide +kernel)
theorem fZ:XE Ds Dt mc 0=(⟨4,4⟩,⟨4,4⟩,true):=MX (by decide +kernel)
theorem aa (m:Int) (h:m=1∨m=2):XE Ds Dt (MK 2 m) 0=(⟨4,4⟩,⟨4,4⟩,true):=by
 rcases h with rfl | rfl <;> exact MX (by decide +kernel)
theorem iM {a b:PV} {f:FV} (h:((List.range f.M.toNat).all fun k=>!PO a b f k)=true):DX a b f:=fun k hk=>by
 have:=List.all_eq_true.1 h k (List.mem_range.2 hk)
 simpa using this
theorem Lg (m:Int) (h:m=1∨m=2):Ki exA exB (MK 2 m) 0=0:=by
 rw [FU]
 refine ⟨?_,?_,⟨0,?_,?_,?_⟩,?_,?_⟩
 ·rcases h with rfl | rfl <;> exact GH.1 (by decide)
 ·rcases h with rfl | rfl <;> exact iM (by decide +kernel)
 ·rcases h with rfl | rfl <;> decide
 ·rcases h with rfl | rfl <;> exact congrArg (·.2) Ul
 ·rcases h with rfl | rfl <;> exact congrArg (·.1) Ul
 ·have:=aa m h
  show (XE Ds Dt (MK 2 m) 0).2.2=true∧(XE Ds Dt (MK 2 m) 0).1=_∧(XE Ds Dt (MK 2 m) 0).2.1=_
  rw [this]; exact ⟨rfl,rfl,rfl⟩
 ·rw [YN]
  rcases h with rfl | rfl <;> decide +kernel
theorem gc:Ki exA exB (MK 3 2) 0=21:=by
 unfold Ki
 rw [if_pos (GH.1 (by decide)),if_pos (iM (by decide +kernel)),if_neg]
 rintro ⟨k,hk,h1,h2⟩
 have hk:k<2:=hk
 have e0:Qc Ds Dt 1 3=(v0,false):=MY (by decide +kernel)
 have e1:Qc Ds Dt 2 2=(⟨-3 / 5,-4 / 5⟩,true):=MZ (by unfold RE; decide) (by decide +kernel)
 match k,hk with
 | 0,_ =>
  have:(Qc Ds Dt 1 3).2=true:=h1
  rw [e0] at this; cases this
 | 1,_ =>
  have:(Qc Ds Dt 2 2).1=exT:=h2
  rw [e1,V2.ext'] at this
  exact absurd this.1 (by decide +kernel)
theorem gb:BP exA exB (MK 2 2)=10:=by
 unfold BP
 rw [if_pos (GH.1 (by decide))]
 decide +kernel
open Classical in
theorem g9:MK 2 2∈Ct exA exB 0:=by
 refine List.mem_filter.2 ⟨N6 (Lg 2 (.inr rfl)) rfl rfl (by decide) (by decide),?_⟩
 rw [Bool.not_eq_true',Bool.eq_false_iff]
 intro h
 unfold Dv at h
 obtain ⟨g,hg,hp⟩:=List.any_eq_true.1 h
 have hp:ZS 5 5 (MK 2 2) g:=of_decide_eq_true hp
 have hc:=Hv hg (by decide) (by decide)
 obtain ⟨_,_,_,⟨ha,_⟩,_⟩:=(FU exA exB g 0).1 hc
 obtain ⟨_,_,q1,q2,q3,q4,q5⟩:=Aq hg (by decide) (by decide)
 obtain ⟨A,B,EA,EB,M,t,lo,hi⟩:=g
 have q1:0≤EA∧EA<5:=q1
 have q2:0≤EB∧EB<5:=q2
 have q4:M<5:=q4
 obtain ⟨p1,p2,p3,p4⟩:=hp
 have p1:2<M:=p1
 have p2:(1 - EA) % 5+2≤M:=p2
 have p3:(EB - (1 - EA) % 5) % 5=2:=p3
 have p4:exT=t:=p4
 subst p4
 have key:∀ (i:Nat),i≤M.toNat→Zr Ds Dt ⟨0,0,EA,EB,0,exT,v0,v0⟩ i=Zr Ds Dt ⟨0,0,EA,EB,0,exT,v0,v0⟩ 0:=fun i h=>Yg ha i 0 h (by omega)
 have k3:=key 3 (by omega)
 have k4:=fun h=>key 4 h
 have c:(EA=1∧EB=2)∨(EA=0∧EB=3)∨(EA=4∧EB=4∧M=4):=by omega
 rcases c with ⟨rfl,rfl⟩ | ⟨rfl,rfl⟩ | ⟨rfl,rfl,rfl⟩
 ·exact absurd k3 (by rw [V2.ext']; decide +kernel)
 ·exact absurd k3 (by rw [V2.ext']; decide +kernel)
 ·exact absurd (k4 (by decide)) (by rw [V2.ext']; decide +kernel)
end Go.Ab.N
namespace Go.Ab.N
open Go Go.RowKit Go.Proofs
noncomputable section
set_option maxRecDepth 10000
set_option maxHeartbeats 4000000
open Classical
theorem nv (p:Int×Int):(Kk p).length=2:=rfl
theorem GR (R:List (Int×Int)) (n m:Nat) (t:Bool) (l:List AV) (hl:l=R.flatMap Kk) (hn:n=R.length) (hm:m=R.length*2) (h0:0<R.length):Weak (.sl n m (Xo l) t) (Dw R):=by
 subst hn hm hl
 rw [Xe]
 exact Ak (by rfl) (Nat.le_refl _) fun j hj=>by rw [H9 Kk 2 (0,0) (by omega) nv R j hj]; exact Weak.rfl' _
theorem Pl (t:Bool):WeakL [.bool false,.sl 0 0 (fun _=>.any) t,.bool false,.sl 0 0 (fun _=>.any) t] (qC 0) :=
 have h1:Xb (0:Rat).num.natAbs=[]:=by rw [Rat.zero_num]; simp [Q2]
 have h2:Xb (qd (0:Rat))=[]:=D3 rfl
 ⟨Weak.rfl' _,Qw h1,Weak.rfl' _,Qw h2,trivial⟩
def RX (W:List FV) (f:FV) (j:Nat):Bool:=(W.take j).any fun g=>decide (g=f)
theorem aH (W:List FV) (f:FV) (j:Nat) (h:j<W.length):RX W f (j+1)=(RX W f j || decide (W.getD j Zx=f)):=by
 unfold RX
 rw [List.take_succ_eq_append_getElem h,List.any_append,List.getD_eq_getElem?_getD,List.getElem?_eq_getElem h]
 simp
theorem i9 {W:List FV} {f:FV} (h:f∈W):RX W f W.length=true:=by
 unfold RX
 rw [List.take_length,List.any_eq_true]
 exact ⟨f,h,by simp⟩
theorem jM (t:Bool):WeakL [.bool (decide (exT.x.num<0)),X8 (Xb exT.x.num.natAbs),.bool false,X8 (Xb (qd exT.x)),.bool false,.sl 0 0 (fun _=>.any) t,.bool false,.sl 0 0 (fun _=>.any) t] (vC exT):=by
 obtain ⟨u1,u2,u3,u4,_⟩:=Pl t
 exact ⟨Weak.rfl' _,Weak.rfl' _,Weak.rfl' _,Weak.rfl' _,u1,u2,u3,u4,trivial⟩
theorem jK (t:Bool):WeakL [I 0,I 1,I 1,I 2,I 2,.bool (decide (exT.x.num<0)),X8 (Xb exT.x.num.natAbs),.bool false,X8 (Xb (qd exT.x)),.bool false,.sl 0 0 (fun _=>.any) t,.bool false,.sl 0 0 (fun _=>.any) t,
  .bool false,.sl 0 0 (fun _=>.any) t,.bool false,.sl 0 0 (fun _=>.any) t,.bool false,.sl 0 0 (fun _=>.any) t,.bool false,.sl 0 0 (fun _=>.any) t,.bool false,.sl 0 0 (fun _=>.any) t,.bool false,.sl 0 0 (fun _=>.any) t,.bool false,.sl 0 0 (fun _=>.any) t,.bool false,.sl 0 0 (fun _=>.any) t] (XJ mc):=by
 obtain ⟨u1,u2,u3,u4,_⟩:=Pl t
 obtain ⟨w1,w2,w3,w4,w5,w6,w7,w8,_⟩:=Ek t
 exact ⟨Weak.rfl' _,Weak.rfl' _,Weak.rfl' _,Weak.rfl' _,Weak.rfl' _,Weak.rfl' _,Weak.rfl' _,Weak.rfl' _,Weak.rfl' _,u1,u2,u3,u4,w1,w2,w3,w4,w5,w6,w7,w8,w1,w2,w3,w4,w5,w6,w7,w8,trivial⟩
theorem jL (t:Bool):WeakL ([I 0,I 1,I 1,I 2,I 2,.bool (decide (exT.x.num<0)),X8 (Xb exT.x.num.natAbs),.bool false,X8 (Xb (qd exT.x)),.bool false,.sl 0 0 (fun _=>.any) t,.bool false,.sl 0 0 (fun _=>.any) t] ++ (vC ⟨4,4⟩ ++ vC ⟨4,4⟩)) (XJ (MK 2 2)):=by
 obtain ⟨u1,u2,u3,u4,_⟩:=Pl t
 exact ⟨Weak.rfl' _,Weak.rfl' _,Weak.rfl' _,Weak.rfl' _,Weak.rfl' _,Weak.rfl' _,Weak.rfl' _,Weak.rfl' _,Weak.rfl' _,u1,u2,u3,u4,Weak.rfl' _,Weak.rfl' _,Weak.rfl' _,Weak.rfl' _,Weak.rfl' _,Weak.rfl' _,Weak.rfl' _,Weak.rfl' _,Weak.rfl' _,Weak.rfl' _,Weak.rfl' _,Weak.rfl' _,Weak.rfl' _,Weak.rfl' _,Weak.rfl' _,Weak.rfl' _,trivial⟩
theorem qZ:(⟨((4:Int):Rat),((4:Int):Rat)⟩:V2)=⟨4,4⟩:=by rw [V2.ext']; exact ⟨by decide +kernel,by decide +kernel⟩
theorem Ik (eb m:Int):(MK eb m).fine:=⟨by show vb exT≤60; decide +kernel,by show vb ⟨4,4⟩≤300; decide +kernel,by show vb ⟨4,4⟩≤300; decide +kernel⟩
theorem Ut:Fn Tryz.prog 49 [] (.bool true):=by
 have cA:=LD Ds (by decide)
 have cB:=LD Dt (by decide)
 rw [show Cg Ds=exA from rfl] at cA
 rw [show Cg Dt=exB from rfl] at cB
 have a1:=CV exA exB 1 2 (by decide) (by decide) exA_gp.even.near exB_gp.even.near
 rw [show Qc exA.rim exB.rim 1 2=(exT,true) from Ul] at a1
 have a2:=CV exA exB 0 2 (by decide) (by decide) exA_gp.even.near exB_gp.even.near
 rw [show Qc exA.rim exB.rim 0 2=(v0,false) from r5] at a2
 have o1:=QX (-1) 1 ⟨by omega,by omega⟩ ⟨by omega,by omega⟩
 have q0:=Ad
 have g1:=II exA exB mc exA_gp.even exB_gp.even (by show vb exT≤1000; decide +kernel) exA_gp.tol exB_gp.tol (by omega) (by omega)
 rw [show XE exA.rim exB.rim mc (0+0)=(⟨4,4⟩,⟨4,4⟩,true) from by rw [show (0:Rat)+0=0 by decide +kernel]; exact fZ] at g1
 have hT:vb exT≤60:=by decide +kernel
 have s1:=KY exT exT (by unfold vm; omega) (by unfold vm; omega)
 rw [decide_eq_true rfl] at s1
 have of1:=KI 4 4 ⟨by omega,by omega⟩ ⟨by omega,by omega⟩
 rw [qZ] at of1
 have hc0:vb ⟨4,4⟩≤60:=by decide +kernel
 have hc:vb ⟨4,4⟩≤vm:=by unfold vm; omega
 have s2:=BL ⟨4,4⟩ ⟨4,4⟩ hc hc
 rw [decide_eq_true rfl] at s2
 have z0:(0:Rat)+0=0:=by decide +kernel
 have cf:=gh exA exB exA_gp exB_gp
 have hF:=Ro exA_gp exB_gp
 rw [z0] at cf hF
 have hfd:=i9 g9
 generalize Ct exA exB 0=W at *
 have k1:=Eu exA exB (MK 2 2) exA_gp exB_gp (Ik 2 2)
 have k2:=Eu exA exB (MK 2 1) exA_gp exB_gp (Ik 2 1)
 have k3:=Eu exA exB (MK 3 2) exA_gp exB_gp (Ik 3 2)
 rw [z0] at k1 k2 k3
 rw [Lg 2 (.inr rfl)] at k1
 rw [Lg 1 (.inl rfl)] at k2
 rw [gc] at k3
 have k4:=Nk exA exB (MK 2 2) exA_gp.even exB_gp.even
 rw [gb] at k4
 have lW:=hF.len
 have fW:=hF.fine
 clear hF
 rw [show Rat.divInt (-1) 1=exT.x by decide +kernel] at o1
 generalize hEA:exA=pa at *
 generalize hEB:exB=pb at *
 refine Fn.intro (fn:=Tryz.f49) Tryz.call49 Tryz.func49 rfl mixed 16 [] [7,8012,80000003,80000008,80000009,16] [] (by kernel_rfl) (Nat.le_of_ble_eq_true rfl) (by simp) (X0 1000 ?_)
 simp (disch:=omega) only [AS.start,↓Xw,wG,seval]
 refine XZ cA ⟨GR Ds _ _ _ _ rfl rfl rfl (by decide),trivial⟩ ?_
 simp (disch:=omega) only [QH,XD,↓Xw,wG,seval]
 refine XZ cB ⟨GR Dt _ _ _ _ rfl rfl rfl (by decide),trivial⟩ ?_
 simp (disch:=omega) only [QH,XD,↓Xw,wG,seval]
 refine X1 a1 rfl ?_
 simp (disch:=omega) only [QH,XD,↓Xw,wG,seval]
 refine X1 a2 rfl ?_
 simp (disch:=omega) only [QH,XD,↓Xw,wG,seval]
 refine X1 o1 rfl ?_
 simp (disch:=omega) only [QH,XD,↓Xw,wG,seval]
 refine XZ g1 ⟨Weak.rfl' _,Weak.rfl' _,XW (jK false),trivial⟩ ?_
 simp (disch:=omega) only [↓Xw,wG,seval]
 refine XZ s1 ⟨Weak.rfl' _,XW (jM false),trivial⟩ ?_
 simp (disch:=omega) only [↓Xw,wG,seval]
 refine X1 of1 rfl ?_
 simp (disch:=omega) only [↓Xw,wG,seval]
 refine X1 s2 rfl ?_
 simp (disch:=omega) only [↓Xw,wG,seval]
 refine X1 s2 rfl ?_
 simp (disch:=omega) only [QH,XD,↓Xw,wG,seval]
 refine X1 cf rfl ?_
 simp (disch:=omega) only [↓Xw,wG,seval]
 refine Xg (fun i:Nat=>⟨16,[],[.any,.ref 0 0 0,.ref 1 0 0,.any,.any,.any,.any,.ref 4 0 0,.any,.any,.any,ER W,.bool (RX W (MK 2 2) i),I i,.any,.any],[],[.con 0 25 (Xo (XD pa)),.con 0 25 (Xo (XD pb)),.con 0 8 (Xo (vC exT)),.row 0 8 (Xo (vC v0)),.con 0 29 (Xo (XJ (MK 2 2))),.con 0 8 (Xo (vC ⟨4,4⟩)),.con 0 8 (Xo (vC ⟨4,4⟩))]⟩) (fun i=>i≤W.length) (fun i=>W.length - i) 0 (by omega)
  (Sub.trans (XR 0 rfl) (Sub.trans (XR 1 rfl) (Sub.trans (Ef 4 _ rfl rfl (jL false)) (Sub.trans (XR 4 rfl) (Xa rfl (by simp [Xh,XB,I,RX]) (by simp [Xi]) (by simp [XD,XJ,vC,Xe,Xl,X4,I,sg])))))) ?_
 intro i hi next
 by_cases hi2:i<W.length
 ·have x1:=fF W i
  have x2:=oZ W i
  have hm:=fW _ (QN (d:=Zx) hi2)
  have hs:=aH W (MK 2 2) i hi2
  generalize W.getD i Zx=f at *
  have cs:=FB f (MK 2 2) hm (Ik 2 2)
  generalize decide (f=MK 2 2)=D at *
  generalize RX W (MK 2 2) i=B0 at *
  cases B0
  ·refine X0 1000 ?_
   simp (disch:=omega) only [x1,x2,XB,XJ,List.cons_append,List.nil_append,↓Xw,wG,seval]
   refine X1 cs rfl ?_
   simp (disch:=omega) only [XB,↓Xw,wG,seval]
   exact next (i+1) _ (by omega) (by omega) (Xa rfl (by simp [Xh,XB,I,hs]) (by simp [Xi]) (by simp [XD,XJ,vC,Xe,Xl,X4,I,sg]))
  ·refine X0 1000 ?_
   simp (disch:=omega) only [x1,x2,XB,XJ,List.cons_append,List.nil_append,↓Xw,wG,seval]
   exact next (i+1) _ (by omega) (by omega) (Xa rfl (by simp [Xh,XB,I,hs]) (by simp [Xi]) (by simp [XD,XJ,vC,Xe,Xl,X4,I,sg]))
 obtain rfl:i=W.length:=by omega
 refine X0 1000 ?_
 rw [hfd]
 simp (disch:=omega) only [XB,XD,XJ,List.cons_append,List.nil_append,↓Xw,wG,seval]
 refine X1 k1 rfl ?_
 simp (disch:=omega) only [XD,XJ,List.cons_append,List.nil_append,↓Xw,wG,seval]
 refine X1 k2 rfl ?_
 simp (disch:=omega) only [XD,XJ,List.cons_append,List.nil_append,↓Xw,wG,seval]
 refine X1 k3 rfl ?_
 simp (disch:=omega) only [XD,XJ,List.cons_append,List.nil_append,↓Xw,wG,seval]
 refine X1 k4 rfl ?_
 simp (disch:=omega) only [↓Xw,wG,seval]
 exact Xt rfl rfl (X3 _) rfl
theorem Rp {f:FV} (h:f.fine):vb f.turn≤vm∧vb f.lo≤vm∧vb f.hi≤vm:=by
 obtain ⟨h1,h2,h3⟩:=h
 unfold vm
 exact ⟨by omega,by omega,by omega⟩
theorem S4 {n m:Nat} {f:FV} (hn:n≤12) (hm:m≤12) (h:(0≤f.EA∧f.EA<n)∧(0≤f.EB∧f.EB<m)∧1≤f.M∧f.M<n∧f.M<m):f.near:=⟨by omega,by omega,by omega⟩
theorem O4:∀ {l m:List AV} (r:List AV),WeakL l m→WeakL (l ++ r) (m ++ r)
 | [],[],r,_=>Q0 r
 | _ :: _,[],_,h=>h.elim
 | [],_ :: _,_,h=>h.elim
 | _ :: _,_ :: _,r,h=>⟨h.1,O4 r h.2⟩
theorem Ru (f:FV):(XJ f).length=29:=rfl
theorem Rr:∀ L:List FV,(L.flatMap XJ).length=L.length*29
 | []=>rfl
 | f :: L=>by rw [List.flatMap_cons,List.length_append,Rr L,Ru,List.length_cons]; omega
theorem O6 {l:List AV} {L:List FV} {n m:Nat} {t:Bool} (h:WeakL l (L.flatMap XJ)) (hn:n=L.length) (hm:m=L.length*29) (h0:0<L.length):Weak (.sl n m (Xo l) t) (ER L):=by
 subst hn hm
 rw [XB]
 refine Ak (by rfl) (Nat.le_refl _) fun j hj=>?_
 have hj:j<L.length*29:=hj
 rw [← H9 XJ 29 Zx (by omega) Ru L j hj]
 exact fun c v hv=>(WeakL.spec h).2 j (by rw [(WeakL.spec (c:=c) h).1,Rr]; exact hj) v hv
theorem EO {x:Int} (k:Int) (hk:0<k) (h:Ks x):Ks (x.tdiv k):=by
 obtain ⟨h1,h2⟩:=h
 rcases Int.le_total 0 x with h | h
 ·rw [Int.tdiv_eq_ediv_of_nonneg h]
  have a:=Int.ediv_nonneg h (Int.le_of_lt hk)
  have b:=Int.ediv_le_self k h
  exact ⟨by omega,by omega⟩
 ·obtain ⟨y,rfl⟩:∃ y,x = -y:=⟨-x,by omega⟩
  have hy:0≤y:=by omega
  rw [Int.neg_tdiv,Int.tdiv_eq_ediv_of_nonneg hy]
  have a:=Int.ediv_nonneg hy (Int.le_of_lt hk)
  have b:=Int.ediv_le_self k hy
  exact ⟨by omega,by omega⟩
def FV.ab (f:FV):FV:={ f with A:=0,B:=1 }
theorem PZ (a b:PV) (f:FV) (e:Rat):Ki a b f.ab e=Ki a b f e:=rfl
theorem Oy (l m:List Int) (wh how b:Int) (hl:C0 l) (hl2:l.length<9223372036854775808) (hm:C0 m) (hm2:m.length<9223372036854775808) (hw:Ks wh) (hh:Ks how) (hb:Ks b) :
  Fn Tryz.prog 9 [X8 l,X8 m,I wh,I how,I b] (.bool true):=by
 obtain ⟨A,B,ta,tb,cP,gA,gB,sA,sB⟩:=aT l m hl hl2 hm hm2
 have pA:=Iz gA; have pB:=Iz gB
 have ca:=Kv wh A.rim.length hw (by omega)
 have cb:=Kv b B.rim.length hb (by omega)
 obtain ⟨cT,vT⟩:=O1 how hh
 have cF:=UO A B gA gB
 have hF:=Ro gA gB
 have hsm:∀ f∈Ct A B (ta+tb),vb f.turn≤26∧vb f.lo≤200∧vb f.hi≤200:=fun f hf=>(G6 gA gB (List.mem_filter.1 hf).1).2
 have hsh:∀ f∈Ct A B (ta+tb),(0≤f.EA∧f.EA<A.rim.length)∧(0≤f.EB∧f.EB<B.rim.length)∧1≤f.M∧f.M<A.rim.length∧f.M<B.rim.length:=fun f hf=>(Aq (List.mem_filter.1 hf).1 pA.1 pB.1).2.2
 have htop:∀ f,Ki A B f (ta+tb)=0→∃ h∈Ct A B (ta+tb),f.ab=h∨ZS A.rim.length B.rim.length f.ab h:=fun f h1=>YL (f:=f.ab) (by rw [PZ]; exact h1) rfl rfl pA.1 pB.1
 generalize Ct A B (ta+tb)=L at *
 have lL:=hF.len
 generalize QV wh A.rim.length=n0 at *
 generalize QV b B.rim.length=k0 at *
 generalize T7 how=tu at *
 have z0:=Ej
 have qa:=gA.qt; have qb':=gB.qt
 have w8:IntKind.i64.wrap (how.tdiv 8)=how.tdiv 8:=by have:=EO 8 (by omega) hh; obtain ⟨h1,h2⟩:=this; rw [IntKind.wrap_i64]; omega
 have w9:IntKind.i64.wrap (b.tdiv 9)=b.tdiv 9:=by have:=EO 9 (by omega) hb; obtain ⟨h1,h2⟩:=this; rw [IntKind.wrap_i64]; omega
 have h8:=EO 8 (by omega) hh
 have h9:=EO 9 (by omega) hb
 generalize e8:how.tdiv 8=how8 at *
 generalize e9:b.tdiv 9=b9 at *
 have bA:XK 3 (.con 0 25 (Xo (XD A)))=True:=eq_true (fun j _=>X6 (Xc (Xy A) _))
 have bB:XK 3 (.con 0 25 (Xo (XD B)))=True:=eq_true (fun j _=>X6 (Xc (Xy B) _))
 have bL:JJ 3 (ER L)=True:=eq_true (X6 (K0 L))
 refine Fq Tryz.call9 Tryz.func9 26 [] [3,40000011,40000012,12,13000,13001,13002,13008,18,19003,19009,19013,19019,19022,26] [] (by simp [X7,X9]) (X0 1000 ?_)
 simp (disch:=omega) only [AS.start,↓Xw,wG,seval]
 refine X1 cP rfl ?_
 simp (disch:=omega) only [QH,XD,↓Xw,wG,seval]
 refine X1 cF rfl ?_
 simp (disch:=omega) only [QH,XD,↓Xw,wG,seval]
 refine X1 ca rfl ?_
 simp (disch:=omega) only [QH,XD,↓Xw,wG,seval]
 refine X1 cb rfl ?_
 simp (disch:=omega) only [QH,XD,↓Xw,wG,seval]
 refine X1 cT rfl ?_
 have tail:∀ f:FV,vb f.turn≤60→vb f.lo≤200→vb f.hi≤200→∃ G1 G2:FV,Fn Tryz.prog 33 [Jx f,I how,I b] (Jx G1)∧Fn Tryz.prog 33 [Jx G1,I how8,I b9] (Jx G2)∧G1.fine∧G2.fine ∧
   Fn Tryz.prog 47 [QH A,QH B,Jx { f with M:=1 }] (.tup [vA (XE A.rim B.rim { f with M:=1 } (ta+tb)).1,vA (XE A.rim B.rim { f with M:=1 } (ta+tb)).2.1,.bool (XE A.rim B.rim { f with M:=1 } (ta+tb)).2.2]) ∧
   FV.fine { f with M:=1,lo:=(XE A.rim B.rim { f with M:=1 } (ta+tb)).1,hi:=(XE A.rim B.rim { f with M:=1 } (ta+tb)).2.1 }:=fun f h1 h2 h3=>by
  obtain ⟨G1,cG1,fG1,l1,l2⟩:=PQ f h1 (by omega) (by omega) how b hh hb
  obtain ⟨G2,cG2,fG2⟩:=kT G1 fG1.turn (by omega) (by omega) how8 b9 h8 h9
  have hs:=FM A B { f with M:=1 } gA.even.near gB.even.near (ta+tb) h1
  have qs:=JL ta tb
  exact ⟨G1,G2,cG1,cG2,fG1,fG2,Hg A B { f with M:=1 } gA.even gB.even (by show vb f.turn≤1000; omega) gA.tol gB.tol (by omega) (by omega),⟨h1,Nat.le_trans hs.1 (by omega),Nat.le_trans hs.2 (by omega)⟩⟩
 apply tQ (X:=QI Tryz.prog Tryz.f9 [3,40000011,40000012,12,13000,13001,13002,13008,18,19003,19009,19013,19019,19022,26] [] (.bool true)) (fun p:FV×FV×FV×FV=>p.1.fine∧p.2.1.fine∧p.2.2.1.fine∧p.2.2.2.fine)
  (fun p=>⟨26,[],[.any,.any,.any,.any,.any,.any,.any,.any,.any,.any,.any,.ref 0 0 0,.ref 1 0 0,ER L,.ref 2 0 0,.any,.any,.any,.any,.any,ER [p.1,p.2.1,p.2.2.1,p.2.2.2],I 0,.any,.any,.any,.any],[],[.con 0 25 (Xo (XD A)),.con 0 25 (Xo (XD B)),.con 0 29 (Xo (XJ p.1))]⟩)
 case h1 =>
  intro key
  by_cases hL:L.length=0
  ·have z0':vb v0≤200:=by omega
   obtain ⟨G1,G2,cG1,cG2,fG1,fG2,cA,fA⟩:=tail ⟨0,1,n0,k0,1,tu,v0,v0⟩ (by show vb tu≤60; omega) z0' z0'
   have ff:FV.fine ⟨0,1,n0,k0,1,tu,v0,v0⟩:=⟨by show vb tu≤60; omega,by show vb v0≤300; omega,by show vb v0≤300; omega⟩
   have wf:∀ t':Bool,WeakL ([I 0,I 1,I n0,I k0,I 1] ++ (vC tu ++ ([.bool false,.sl 0 0 (fun _=>.any) t',.bool false,.sl 0 0 (fun _=>.any) t',.bool false,.sl 0 0 (fun _=>.any) t',.bool false,.sl 0 0 (fun _=>.any) t'] ++ [.bool false,.sl 0 0 (fun _=>.any) t',.bool false,.sl 0 0 (fun _=>.any) t',.bool false,.sl 0 0 (fun _=>.any) t',.bool false,.sl 0 0 (fun _=>.any) t']))) (XJ ⟨0,1,n0,k0,1,tu,v0,v0⟩):=fun t'=>by
    obtain ⟨w1,w2,w3,w4,w5,w6,w7,w8,_⟩:=Ek t'
    exact ⟨Weak.rfl' _,Weak.rfl' _,Weak.rfl' _,Weak.rfl' _,Weak.rfl' _,Weak.rfl' _,Weak.rfl' _,Weak.rfl' _,Weak.rfl' _,Weak.rfl' _,Weak.rfl' _,Weak.rfl' _,Weak.rfl' _,w1,w2,w3,w4,w5,w6,w7,w8,w1,w2,w3,w4,w5,w6,w7,w8,trivial⟩
   simp only at cA fA
   generalize XE A.rim B.rim ⟨0,1,n0,k0,1,tu,v0,v0⟩ (ta+tb)=T at *
   obtain ⟨lo,hi,ok⟩:=T
   simp (maxSteps:=999999) (disch:=omega) only [XB,hL,↓Xw,wG,seval]
   refine XZ cG1 ⟨XW (wf _),Weak.rfl' _,Weak.rfl' _,trivial⟩ ?_
   simp (disch:=omega) only [Jx,XJ,XD,List.cons_append,List.nil_append,↓Xw,wG,seval]
   refine XZ cA ⟨Weak.rfl' _,Weak.rfl' _,XW (wf _),trivial⟩ ?_
   simp (maxSteps:=999999) (disch:=omega) only [e8,e9,w8,w9,Jx,XJ,List.cons_append,List.nil_append,↓Xw,wG,seval]
   refine X1 cG2 rfl ?_
   simp (maxSteps:=999999) (disch:=omega) only [Jx,XJ,List.cons_append,List.nil_append,↓Xw,wG,seval]
   refine (key (⟨0,1,n0,k0,1,tu,v0,v0⟩,G1,G2,⟨0,1,n0,k0,1,tu,lo,hi⟩) ⟨ff,fG1,fG2,fA⟩).sub ?_
   have wF:∀ t':Bool,Weak (.sl 4 116 (Xo (([I 0,I 1,I n0,I k0,I 1] ++ (vC tu ++ ([.bool false,.sl 0 0 (fun _=>.any) t',.bool false,.sl 0 0 (fun _=>.any) t',.bool false,.sl 0 0 (fun _=>.any) t',.bool false,.sl 0 0 (fun _=>.any) t'] ++ [.bool false,.sl 0 0 (fun _=>.any) t',.bool false,.sl 0 0 (fun _=>.any) t',.bool false,.sl 0 0 (fun _=>.any) t',.bool false,.sl 0 0 (fun _=>.any) t']))) ++ (XJ G1 ++ (XJ G2 ++ (XJ ⟨0,1,n0,k0,1,tu,lo,hi⟩ ++ []))))) true) (ER [⟨0,1,n0,k0,1,tu,v0,v0⟩,G1,G2,⟨0,1,n0,k0,1,tu,lo,hi⟩]):=fun t'=>O6 (L:=[⟨0,1,n0,k0,1,tu,v0,v0⟩,G1,G2,⟨0,1,n0,k0,1,tu,lo,hi⟩]) (O4 _ (wf t')) rfl rfl (Nat.succ_pos _)
   have bF:JJ 3 (ER [⟨0,1,n0,k0,1,tu,v0,v0⟩,G1,G2,⟨0,1,n0,k0,1,tu,lo,hi⟩])=True:=eq_true (X6 (K0 _))
   have bf:XK 3 (.con 0 29 (Xo (XJ ⟨0,1,n0,k0,1,tu,v0,v0⟩)))=True:=eq_true (fun j _=>X6 (Xc (XM _) _))
   exact Sub.trans (ZP 20 _ (by show 20<26; omega) (Ze (wF _))) (Sub.trans (Ef 2 _ rfl rfl (wf true)) (Sub.trans (XR 2 rfl) (Xr (m:=3) (Nat.zero_le _) rfl (by simp [AS.put,Xh,XB,I,hL]) (by simp [AS.put,Xi]) (by simp [XD,XJ,Xe,Xl,X4,I,sg]) (by simp [Xv,bL,bF]) (by simp [Xv]) (by simp [bA,bB,bf]))))
  ·have cW:=Kv wh L.length hw (by omega)
   have bW:=K6 wh L.length (by omega)
   obtain ⟨x,hx⟩:∃ x:Nat,QV wh L.length=x:=⟨(QV wh L.length).toNat,by omega⟩
   rw [hx] at cW bW
   have hmem:L.getD x Zx∈L:=QN (by omega)
   obtain ⟨s1,s2,s3⟩:=hsm _ hmem
   have v1:=fF L x
   have v2:=oZ L x
   have ff:=hF.fine _ hmem
   generalize L.getD x Zx=f at *
   obtain ⟨G1,G2,cG1,cG2,fG1,fG2,cA,fA⟩:=tail f (by omega) s2 s3
   generalize XE A.rim B.rim { f with M:=1 } (ta+tb)=T at *
   obtain ⟨lo,hi,ok⟩:=T
   simp only at cA fA
   have nL:((L.length:Int)=0)=False:=eq_false (by omega)
   simp (disch:=omega) only [XB,↓Xw,wG,seval]
   refine X1 cW rfl ?_
   simp (maxSteps:=999999) (disch:=omega) only [v1,v2,XB,Jx,XJ,List.cons_append,List.nil_append,↓Xw,wG,seval]
   refine X1 cG1 rfl ?_
   simp (disch:=omega) only [Jx,XJ,XD,List.cons_append,List.nil_append,↓Xw,wG,seval]
   refine X1 cA rfl ?_
   simp (maxSteps:=999999) (disch:=omega) only [e8,e9,w8,w9,Jx,XJ,List.cons_append,List.nil_append,↓Xw,wG,seval]
   refine X1 cG2 rfl ?_
   simp (maxSteps:=999999) (disch:=omega) only [Jx,XJ,List.cons_append,List.nil_append,↓Xw,wG,seval]
   have wF:Weak (.sl 4 116 (Xo (XJ f ++ (XJ G1 ++ (XJ G2 ++ (XJ { f with M:=1,lo:=lo,hi:=hi } ++ []))))) true) (ER [f,G1,G2,{ f with M:=1,lo:=lo,hi:=hi }]):=O6 (L:=[f,G1,G2,{ f with M:=1,lo:=lo,hi:=hi }]) (Q0 _) rfl rfl (Nat.succ_pos _)
   have bF:JJ 3 (ER [f,G1,G2,{ f with M:=1,lo:=lo,hi:=hi }])=True:=eq_true (X6 (K0 _))
   have bf:XK 3 (.con 0 29 (Xo (XJ f)))=True:=eq_true (fun j _=>X6 (Xc (XM _) _))
   refine (key (f,G1,G2,{ f with M:=1,lo:=lo,hi:=hi }) ⟨ff,fG1,fG2,fA⟩).sub ?_
   exact Sub.trans (ZP 20 _ (by show 20<26; omega) (Ze wF)) (Sub.trans (XR 2 rfl) (Xr (m:=3) (Nat.zero_le _) rfl (by simp [AS.put,Xh,XB,I]) (by simp [AS.put,Xi]) (by simp [XD,XJ,Xe,Xl,X4,I,sg]) (by simp [Xv,bL,bF]) (by simp [Xv]) (by simp [bA,bB,bf])))
 rintro ⟨F,F1,F2,F3⟩ ⟨f0,f1,f2,f3⟩
 simp only at f0 f1 f2 f3 ⊢
 have hfs:∀ j,j<4→FV.fine ([F,F1,F2,F3].getD j Zx):=fun j hj=>by
  match j,hj with
  | 0,_=>exact f0
  | 1,_=>exact f1
  | 2,_=>exact f2
  | 3,_=>exact f3
  | j+4,h=>omega
 have lT:[F,F1,F2,F3].length=4:=rfl
 have bF:XK 3 (.con 0 29 (Xo (XJ F)))=True:=eq_true (fun j _=>X6 (Xc (XM _) _))
 clear f1 f2 f3
 generalize [F,F1,F2,F3]=T at *
 have bT:JJ 3 (ER T)=True:=eq_true (X6 (K0 T))
 refine Xg (fun i:Nat=>⟨26,[],[.any,.any,.any,.any,.any,.any,.any,.any,.any,.any,.any,.ref 0 0 0,.ref 1 0 0,ER L,.ref 2 0 0,.any,.any,.any,.any,.any,ER T,I i,.any,.any,.any,.any],[],[.con 0 25 (Xo (XD A)),.con 0 25 (Xo (XD B)),.con 0 29 (Xo (XJ F))]⟩) (fun i=>i≤4) (fun i=>4 - i) 0 (by omega)
  (Xa rfl (by simp [Xh,I]) (by simp [Xi]) rfl) ?_
 intro i hi next
 by_cases hi4:i<4
 rotate_left
 ·have s1:=Rt F F f0 f0
  rw [decide_eq_true rfl] at s1
  refine X0 1000 ?_
  simp (disch:=omega) only [XB,lT,XJ,↓Xw,wG,seval]
  refine X1 s1 rfl ?_
  simp (disch:=omega) only [↓Xw,wG,seval]
  refine X1 Ut rfl ?_
  simp (disch:=omega) only [↓Xw,wG,seval]
  exact Xt rfl rfl (X3 _) rfl
 have hg:=hfs i hi4
 have z1:=fF T i
 have z2:=oZ T i
 generalize T.getD i Zx=g at *
 have c1:=Eu A B g gA gB hg
 have c2:=Sq A B g gA gB hg
 have k1:=Nk A B g gA.even gB.even
 have k2:=bu A B g gA.even gB.even
 have d1:=Rt F g f0 hg
 have d2:=FB F g f0 hg
 have hck:Ki A B g (ta+tb)=0→g.ab.near∧OG A.rim.length B.rim.length g.ab L L.length=true:=fun h=>by
  refine ⟨S4 pA.2 pB.2 ((FU A B g.ab (ta+tb)).1 (by rw [PZ]; exact h)).1,gv (htop g h)⟩
 generalize Ki A B g (ta+tb)=e at *
 generalize BP A B g=sc at *
 generalize decide (F=g)=Db at *
 have bne:(Db != Db)=false:=by simp
 have hga:g.ab.fine:=⟨hg.turn,hg.lo,hg.hi⟩
 by_cases he:e=0
 ·obtain ⟨hn,htp⟩:=hck he
  refine X0 1000 ?_
  simp (disch:=omega) only [z1,z2,lT,XB,XJ,↓Xw,wG,seval]
  refine X1 c1 rfl ?_
  simp (disch:=omega) only [XJ,↓Xw,wG,seval]
  refine X1 c2 rfl ?_
  simp (disch:=omega) only [XJ,↓Xw,wG,seval]
  refine X1 k1 rfl ?_
  simp (disch:=omega) only [XJ,↓Xw,wG,seval]
  refine X1 k2 rfl ?_
  simp (disch:=omega) only [XJ,↓Xw,wG,seval]
  refine X1 d1 rfl ?_
  simp (disch:=omega) only [XJ,↓Xw,wG,seval]
  refine X1 d2 rfl ?_
  simp (disch:=omega) only [he,bne,XJ,↓Xw,wG,seval]
  refine Xg (fun j:Nat=>⟨26,[],[.any,.any,.any,.any,.any,.any,.any,.any,.any,.any,.any,.ref 0 0 0,.ref 1 0 0,ER L,.ref 2 0 0,.any,.any,.any,.any,.any,ER T,I i,.ref 3 0 0,.any,.bool (OG A.rim.length B.rim.length g.ab L j),I j],[],[.con 0 25 (Xo (XD A)),.con 0 25 (Xo (XD B)),.con 0 29 (Xo (XJ F)),.con 0 29 (Xo (XJ g.ab))]⟩) (fun j=>j≤L.length) (fun j=>L.length - j) 0 (by omega)
   (Sub.trans (XR 3 rfl) (Xa rfl (by simp [Xh,XB,I,OG,lT]) (by simp [Xi]) (by rfl))) ?_
  intro j hj nextj
  by_cases hj2:j<L.length
  rotate_left
  ·obtain rfl:j=L.length:=by omega
   refine X0 1000 ?_
   rw [htp]
   simp (disch:=omega) only [XB,↓Xw,wG,seval]
   exact next (i+1) _ (by omega) (by omega) (Xr (m:=3) (Nat.zero_le _) rfl (by simp [Xh,XB,I,lT]) (by simp [Xi]) (by simp [XD,XJ,Xe,Xl,X4,I,sg]) (by simp [Xv,bL,bT]) (by simp [Xv]) (by simp [bA,bB,bF]))
  clear next
  have hm:=QN (d:=Zx) hj2
  have hs:=ai A.rim.length B.rim.length g.ab L j hj2
  have ho:=hF.fine _ hm
  have hno:=S4 pA.2 pB.2 (hsh _ hm)
  have y1:=fF L j
  have y2:=oZ L j
  generalize L.getD j Zx=o at *
  have p1:=FB g.ab o hga ho
  have p2:=Wb A B g.ab o (by omega) (by omega) hn hno (Rp hga).1 (Rp ho).1
  generalize decide (g.ab=o)=D1 at *
  generalize decide (ZS A.rim.length B.rim.length g.ab o)=D2 at *
  generalize OG A.rim.length B.rim.length g.ab L j=B0 at *
  generalize g.ab=ga at *
  cases B0
  ·refine X0 1000 ?_
   simp (disch:=omega) only [y1,y2,XB,XJ,↓Xw,wG,seval]
   refine X1 p1 rfl ?_
   cases D1
   ·simp (disch:=omega) only [y1,y2,XB,XD,XJ,↓Xw,wG,seval]
    refine X1 p2 rfl ?_
    simp (disch:=omega) only [XB,↓Xw,wG,seval]
    exact nextj (j+1) _ (by omega) (by omega) (Xa rfl (by simp [Xh,XB,I,hs,lT]) (by simp [Xi]) rfl)
   ·simp (disch:=omega) only [XB,↓Xw,wG,seval]
    exact nextj (j+1) _ (by omega) (by omega) (Xa rfl (by simp [Xh,XB,I,hs,lT]) (by simp [Xi]) rfl)
  ·refine X0 1000 ?_
   simp (disch:=omega) only [XB,↓Xw,wG,seval]
   exact nextj (j+1) _ (by omega) (by omega) (Xa rfl (by simp [Xh,XB,I,hs,lT]) (by simp [Xi]) rfl)
 ·refine X0 1000 ?_
  simp (disch:=omega) only [z1,z2,lT,XB,XJ,↓Xw,wG,seval]
  refine X1 c1 rfl ?_
  simp (disch:=omega) only [XJ,↓Xw,wG,seval]
  refine X1 c2 rfl ?_
  simp (disch:=omega) only [XJ,↓Xw,wG,seval]
  refine X1 k1 rfl ?_
  simp (disch:=omega) only [XJ,↓Xw,wG,seval]
  refine X1 k2 rfl ?_
  simp (disch:=omega) only [XJ,↓Xw,wG,seval]
  refine X1 d1 rfl ?_
  simp (disch:=omega) only [XJ,↓Xw,wG,seval]
  refine X1 d2 rfl ?_
  simp (disch:=omega) only [eq_false he,bne,XJ,↓Xw,wG,seval]
  refine Xg (fun j:Nat=>⟨26,[],[.any,.any,.any,.any,.any,.any,.any,.any,.any,.any,.any,.ref 0 0 0,.ref 1 0 0,ER L,.ref 2 0 0,.any,.any,.any,.any,.any,ER T,I i,.ref 3 0 0,.any,.bool true,I j],[],[.con 0 25 (Xo (XD A)),.con 0 25 (Xo (XD B)),.con 0 29 (Xo (XJ F)),.con 0 29 (Xo (XJ g.ab))]⟩) (fun j=>j≤L.length) (fun j=>L.length - j) 0 (by omega)
   (Sub.trans (XR 3 rfl) (Xa rfl (by simp [Xh,XB,I,lT]) (by simp [Xi]) (by rfl))) ?_
  intro j hj nextj
  by_cases hj2:j<L.length
  ·refine X0 1000 ?_
   simp (disch:=omega) only [XB,↓Xw,wG,seval]
   exact nextj (j+1) _ (by omega) (by omega) (Xa rfl (by simp [Xh,XB,I,lT]) (by simp [Xi]) rfl)
  ·refine X0 1000 ?_
   simp (disch:=omega) only [XB,↓Xw,wG,seval]
   exact next (i+1) _ (by omega) (by omega) (Xr (m:=3) (Nat.zero_le _) rfl (by simp [Xh,XB,I,lT]) (by simp [Xi]) (by simp [XD,XJ,Xe,Xl,X4,I,sg]) (by simp [Xv,bL,bT]) (by simp [Xv]) (by simp [bA,bB,bF]))
end
end Go.Ab.N
