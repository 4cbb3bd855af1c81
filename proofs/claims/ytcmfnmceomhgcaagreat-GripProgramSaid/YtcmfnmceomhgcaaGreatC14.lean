/- Contracts of functions, for every argument that fits. -/
import Derived.Test.YtcmfnmceomhgcaaGreatC13
import Derived.Test.YtcmfnmceomhgcaaGreatC12
set_option linter.unusedSimpArgs false
set_option linter.unusedVariables false
namespace Go.Ab.N
open Go Go.RowKit Go.Proofs
noncomputable section
set_option maxRecDepth 10000
set_option maxHeartbeats 4000000
open Classical
theorem DE (y:List Rat):Settled (.ptr 1 (Xf [Qb y]) 0):=XI fun j _=>Xe (l:=[Qb y]) (by simp[Xz]) j
theorem Nn (v:Nat)(L:List Ln)(G y:List Rat)(f:FuncId)(caps:List AV)(h:Ln→Rat)(E:Nat)(hl:L.length<49)(hy:y.length=L.length)(hc:∀ a∈caps,Settled a)(hp:∀x∈L,Fn Tryz.prog f ([Ti x] ++ caps) (qA (h x)))
  (hE:∀i,i<L.length→qb (h (L.getD i K9))+qb (y.getD i 0)≤E) (hE2:E≤2083000):Fn Tryz.prog 230 [.fn f caps,pP v L G,.ptr 1 (Xf [Qb y]) 0] (qA (XB (fun i=>h (L.getD i K9)*y.getD i 0) L.length)):=by
 obtain⟨N,hN⟩:∃N,N=L.length:=⟨_,rfl⟩
 obtain⟨F,hF⟩:∃F:Nat→Rat,F=fun i=>h (L.getD i K9):=⟨_,rfl⟩
 have hlen:((List.range N).map F).length=N:=by simp
 have e0:∀i,i<N→((List.range N).map F).getD i 0=F i:=fun i hi=>JH F hi
 have c0:=Lu ((List.range N).map F) y E (by omega) (by omega) (fun i hi=>by
  rw[hlen]at hi;rw[e0 i hi,hF];exact hE i (by omega)) hE2
 rw[hlen,XH fun i hi=>by rw[e0 i hi]]at c0;have hs:(XB (fun i=>h (L.getD i K9)*y.getD i 0) L.length)=XB (fun i=>F i*y.getD i 0) N:=by rw[hF,hN]
 rw[hs];obtain⟨R,hR⟩:∃R,R=qA (XB (fun i=>F i*y.getD i 0) N):=⟨_,rfl⟩
 have sR:Settled R:=hR▸Xa _;have eL:Ci L=.sl N (N*5) (XD Ka 5 K9 L) false:=by rw[XE,hN]
 have tn:((N:Int)).toNat=N:=by omega
 rw[←hR];refine Fn.intro (fn:=Tryz.f230) Tryz.call230 Tryz.func230 rfl mixed 8 [13,14,15] [] [] (by kernel_rfl) (Nat.le_of_ble_eq_true rfl) (by
  intro a ha;simp only[List.mem_cons,List.not_mem_nil,or_false]at ha;rcases ha with rfl |rfl |rfl
  ·exact Jg hc
  ·exact AJ v L G
  ·exact DE y) (Xk ?_)
 simp(disch:=omega)only[AS.start,pP,ZT,eL,tn,↓Xd,wG,seval];refine Run.sub ?_ (Qo 1 (Xn (fun _=>0)) rfl (fun j _=>fun c' v' _ _ h=>Fa 0 j c' v' h));refine Xj (fun k:Nat=>⟨8,[13,14,15],[.fn f caps,pP v L G,.ptr 1 (Xf [Qb y]) 0,.any,.ref 0 0 0,.osl 1 0 4 0 N,.any,.any],[(13,Ci L),(14,I N),(15,I k)],[.row 0 4 (Xf zeroR),.row 0 (N*4) (Xn (Zu F k))]⟩) (fun k=>k≤N) (fun k=>N-k) 0 (by omega)
  (Xi rfl (by simp[Xm,I,pP,ZT,eL]) (by simp[Xw,XA,I,eL]) (by rw[fM];rfl)) ?_
 intro k hk next
 by_cases hk2:k<N
 rotate_left
 ·obtain rfl:k=N:=by omega
  refine Run.sub ?_ (Sub.trans (XC 1 rfl) (SS (M:=k*4) 5 rfl rfl (by omega) (by omega)));refine Xk ?_;simp(disch:=omega)only[qC,zeroR,AS.put,Xr,↓Xd,wG,seval];refine X0 c0 ⟨JK (by rw[hlen]) (by rw[hlen];exact Nat.le_refl _) (fun j hj=>?_),by rw[Xr];exact Weak.rfl' _,trivial⟩ ?_
  ·rw[hlen]at hj
   have:Xn (Zu F k) j=Xn (fun i=>((List.range k).map F).getD i 0) j:=A5 (N:=k) (fun i hi=>by rw[e0 i hi];exact if_pos hi) j hj;show Weak (Xn (Zu F k) j) (Xn (fun i=>((List.range k).map F).getD i 0) j);rw[this];exact Weak.rfl' _
  simp(disch:=omega)only[qA,qC,zeroR,↓Xd,wG,seval];exact J2 rfl XR rfl rfl rfl sR (hR.trans rfl)
 have nx:=next (k+1)
 clear next
 obtain⟨v1,v2,v3,v4,v5⟩:=we L k;have cp:=hp _ (Qp K9 (show k<L.length by omega));have hst:=CU (Zu F k) k (F k);rw[CL]at hst;have fk:F k=h (L.getD k K9):=by rw[hF]
 rw[←fk]at cp;have eln:Ti (L.getD k K9)=.agg [Qb (L.getD k K9).a,(qC (lB L k)).getD 0 .any,(qC (lB L k)).getD 1 .any,(qC (lB L k)).getD 2 .any,(qC (lB L k)).getD 3 .any]:=rfl;rw[eln]at cp;have f1:(k<N)=True:=eq_true hk2;have w1:=wj k (by omega);refine Xk ?_;simp(disch:=omega)only[eL,v1,v2,v3,v4,v5,f1,w1,Q6,XQ,zeroR,↓Xd,wG,seval];refine X0 cp (X2 _) ?_;simp(disch:=omega)only[eL,v1,v2,v3,v4,v5,f1,w1,Q6,XQ,zeroR,qA,qC,↓Xd,wG,seval];have bF:∀q,Jq q (.fn f caps)=True:=fun q=>eq_true (X6 (Jg hc))
 have bP:∀q,Jq q (pP v L G)=True:=fun q=>eq_true (X6 (AJ v L G))
 have bY:∀q,Jq q (.ptr 1 (Xf [Qb y]) 0)=True:=fun q=>eq_true (X6 (DE y))
 have bL:∀q,Jq q (.sl N (N*5) (XD Ka 5 K9 L) false)=True:=fun q=>eq_true (X6 (eL▸QV L))
 have bZ:∀q,Qa q (.row 0 4 (Xf zeroR))=True:=fun q=>eq_true (QX (by simp[zeroR,X5,JB]))
 have bR:∀q i n g,Qa q (.row i n (Xn g))=True:=fun q i n g=>eq_true (KV _ _ _ _)
 exact nx _ (by omega) (by omega) (XT (m:=2) (Nat.zero_le _) rfl (by simp[Xm,I]) (by simp[Xw,XA,I,eL]) (by rw[←hst];rfl) (by simp[XW,bF,bP,bY]) (by simp[XW,bL,eL]) (by simp[bZ,bR]))
theorem ir (v:Nat)(L:List Ln)(G z:List Rat)(E:Nat)(hv:z.length=v)(hv2:v<49)(hl:L.length<1000000)(ha:∀ x∈L,x.a.length=v)(hE:∀x∈L,∀i,i<v→qb (x.a.getD i 0)+qb (z.getD i 0)≤E) (hE2:E≤2083000) (hb:∀x∈L,qb x.b≤rm)
  (hs:∀x∈L,XB (fun k=>x.a.getD k 0*z.getD k 0) v≤x.b):Fn Tryz.prog 209 [I7 v L G,Qb z,.bool false] (.bool true):=by
 have hq:∀x∈L,qb (XB (fun k=>x.a.getD k 0*z.getD k 0) v)≤rm:=fun x hx=>by
  have h:=GB (f:=fun k=>x.a.getD k 0*z.getD k 0) (E:=E) (m:=v) fun i hi=>by
   have:=Qk (x.a.getD i 0) (z.getD i 0);have:=hE x hx i hi;omega
  have h2:v*(E+1)≤48*(2083000+1):=Nat.mul_le_mul (by omega) (by omega);unfold rm;omega
 have c1:=Dc L 233 [.ptr 1 (Xf [.bool false]) 0,.ptr 1 (Xf [Qb z]) 0] (fun _=>false) hl (by
  intro a ha;simp only[List.mem_cons,List.not_mem_nil,or_false]at ha;rcases ha with rfl |rfl
  ·exact XI fun j _=>Xe (l:=[.bool false]) (by simp[X5]) j
  ·exact DE z) fun x hx=>by
   have h1:=hs x hx;have h2:=hq x hx;have h3:=hE x hx;rw[←hv]at h1 h2 h3;exact YV x z E (by omega) (by rw[ha x hx,hv]) h3 hE2 (hb x hx) h1 h2
 rw[show(L.any fun _=>false)=false by simp]at c1;rw[show Qb z=.sl v (v*4) (Xn fun i=>z.getD i 0) false by rw[Xr,hv]]at c1;refine Fn.intro (fn:=Tryz.f209) Tryz.call209 Tryz.func209 rfl mixed 7 [] [] [] (by kernel_rfl) (Nat.le_of_ble_eq_true rfl) (by
  intro a ha;simp only[List.mem_cons,List.not_mem_nil,or_false]at ha;rcases ha with rfl |rfl |rfl
  ·exact Ks v L G
  ·exact Xz z
  ·exact X5 _) (XG 12 ?_)
 simp(disch:=omega)only[AS.start,I7,XE,Xr,↓Xd,wG,seval];refine Run.sub (s':=⟨7,[],[.any,.any,.any,.ref 0 0 0,.ref 1 0 0,.ref 2 0 0,.any],[],[.row 0 3 (Xf (ZT v L G)),.row 0 1 (Xf [Qb z]),.row 0 1 (Xf [.bool false])]⟩) ?_ (Xi rfl ⟨.inl rfl,.inl rfl,.inl rfl,.inr rfl,.inr rfl,.inr rfl,.inl rfl,trivial⟩ trivial (by rfl));refine Run.sub ?_ (XC 0 rfl);refine Run.sub ?_ (XC 1 rfl);refine Run.sub ?_ (XC 2 rfl);refine Run.sub ?_ (Xy 3 rfl rfl (by omega));refine Run.sub ?_ (Xy 4 rfl rfl (by omega));refine Run.sub ?_ (Xy 5 rfl rfl (by omega));refine Xk ?_;have e1:((z.length:Int)=v)=True:=eq_true (by omega);simp(disch:=omega)only[AS.put,List.set,ZT,Xr,hv,↓Xd,wG,seval];refine X0 c1 (X2 _) ?_;simp(disch:=omega)only[↓Xd,wG,seval];exact Xo (v:=.bool true) rfl rfl (X5 _) rfl
theorem ja (y:List Rat)(hl:y.length<1000000)(h:∀r∈y,0≤r):Fn Tryz.prog 177 [Qb y,.fn 229 []] (.bool false):=by
 have c:=G5 (y.map RQ.of) 229 [] (fun x=>decide (∃r:Rat,x=RQ.of r∧r<0)) (by simpa using hl) (by simp) fun x hx=>by
  obtain⟨r,hr,rfl⟩:=List.mem_map.1 hx;have:=ki r;rw[show decide (r<0)=decide (∃s:Rat,RQ.of r=RQ.of s∧s<0)from decide_eq_decide.2 ⟨fun g=>⟨r,rfl,g⟩,fun⟨s,e,g⟩=>RQ.of_inj e▸g⟩]at this;exact this
 rw[jw]at c;rw[show((y.map RQ.of).any fun x=>decide (∃r:Rat,x=RQ.of r∧r<0))=false from by
  rw[List.any_eq_false];intro x hx;obtain⟨r,hr,rfl⟩:=List.mem_map.1 hx;have:=h r hr;rw[decide_eq_true_eq];rintro⟨s,e,g⟩;rw[RQ.of_inj e]at this;exact absurd g (Rat.not_lt.2 this)]at c
 exact c
theorem p8 (v:Nat)(L:List Ln)(G y:List Rat)(E:Nat)(hv:v<49)(hl:L.length<49)(hG:G.length=v)(hy:y.length=L.length)(ha:∀x∈L,x.a.length=v)
  (hE:∀i k,i<L.length→qb ((L.getD i K9).a.getD k 0)+qb (y.getD i 0)≤E) (hE3:∀i,i<L.length→qb (L.getD i K9).b+qb (y.getD i 0)≤E) (hE2:E≤2083000)
  (hp:∀r∈y,0≤r) (hd:∀k,k<v→XB (fun i=>(L.getD i K9).a.getD k 0*y.getD i 0) L.length=G.getD k 0) (hq:∀k,k<v→qb (G.getD k 0)≤rm) :
  Fn Tryz.prog 208 [I7 v L G,Qb y,Qb G] (.tup [qA (XB (fun i=>(L.getD i K9).b*y.getD i 0) L.length),.bool true]):=by
 have c1:=ja y (by omega) hp;have c2:=Nn v L G y 232 [] (fun x:Ln=>x.b) E hl hy (by simp) (fun x _=>ko x) hE3 hE2;have c3:∀k,k<v→Fn Tryz.prog 230 [.fn 231 [.ptr 1 (Xf [I k]) 0],pP v L G,.ptr 1 (Xf [Qb y]) 0] (qA (G.getD k 0)):=fun k hk=>by
  have:=Nn v L G y 231 [.ptr 1 (Xf [I k]) 0] (fun x:Ln=>x.a.getD k 0) E hl hy (fun a ha=>List.mem_singleton.1 ha▸XI fun j _=>Xe (l:=[I k]) (by simp[Xb]) j) (fun x hx=>kj x k (by rw[ha x hx];exact hk) (by rw[ha x hx];omega)) (fun i hi=>hE i k hi) hE2;rwa[hd k hk]at this
 obtain⟨R,hR⟩:∃R,R=AV.tup [qA (XB (fun i=>(L.getD i K9).b*y.getD i 0) L.length),.bool true]:=⟨_,rfl⟩
 have sR:Settled R:=hR▸Z6 (JY (Xa _) (X5 _));generalize XB (fun i=>(L.getD i K9).b*y.getD i 0) L.length=b at *;rw[←hR];refine Fn.intro (fn:=Tryz.f208) Tryz.call208 Tryz.func208 rfl mixed 10 [23,24] [] [] (by kernel_rfl) (Nat.le_of_ble_eq_true rfl) (by
  intro a ha;simp only[List.mem_cons,List.not_mem_nil,or_false]at ha;rcases ha with rfl |rfl |rfl
  ·exact Ks v L G
  ·exact Xz y
  ·exact Xz G) (XG 11 ?_)
 have ey:Qb y=.sl L.length (L.length*4) (Xn fun i=>y.getD i 0) false:=by rw[Xr,hy]
 simp(disch:=omega)only[AS.start,I7,XE,Xr,↓Xd,wG,seval];refine Run.sub (s':=⟨10,[23,24],[.any,.any,Qb G,.ref 0 0 0,.ref 1 0 0,.any,.ref 2 0 0,.any,.any,.any],[],[.row 0 3 (Xf (ZT v L G)),.row 0 1 (Xf [Qb y]),.row 0 4 (Xf zeroR)]⟩) ?_ (Xi rfl ⟨.inl rfl,.inl rfl,.inr (Xr G).symm,.inr rfl,.inr rfl,.inl rfl,.inr rfl,.inl rfl,.inl rfl,.inl rfl,trivial⟩ trivial (by rfl));refine Run.sub ?_ (XC 0 rfl);refine Run.sub ?_ (XC 1 rfl);refine Run.sub ?_ (Xy 3 rfl rfl (by omega));refine Run.sub ?_ (Xy 4 rfl rfl (by omega));refine Xk ?_;simp(disch:=omega)only[AS.put,List.set,ZT,XE,ey,↓Xd,wG,seval];rw[ey]at c1;refine X0 c1 (X2 _) ?_;simp(disch:=omega)only[AS.put,List.set,ZT,XE,ey,↓Xd,wG,seval];have eP:pP v L G=.ptr 3 (Xf [I v,.sl L.length (L.length*5) (XD Ka 5 K9 L) false,Qb G]) 0:=by unfold pP ZT;rw[XE]
 have eY:AV.ptr 1 (Xf [.sl L.length (L.length*4) (Xn fun i=>y.getD i 0) false]) 0=.ptr 1 (Xf [Qb y]) 0:=by rw[ey]
 rw[eY]at *;have bP:∀q,Jq q (pP v L G)=True:=fun q=>eq_true (X6 (AJ v L G))
 have bY:∀q,Jq q (.ptr 1 (Xf [Qb y]) 0)=True:=fun q=>eq_true (X6 (DE y))
 have bG:∀q,Jq q (Qb G)=True:=fun q=>eq_true (X6 (Xz G))
 have bZ:∀q,Qa q (.row 0 4 (Xf zeroR))=True:=fun q=>eq_true (QX (by simp[zeroR,X5,JB]))
 have bC1:∀q,Qa q (.con 0 3 (Xf (ZT v L G)))=True:=fun q=>eq_true fun j _=>X6 (Xe (l:=ZT v L G) (by simp[ZT,Xb,QV,Xz]) j)
 have bC2:∀q,Qa q (.con 0 1 (Xf [Qb y]))=True:=fun q=>eq_true fun j _=>X6 (Xe (l:=[Qb y]) (by simp[Xz]) j)
 refine Xj (fun k:Nat=>⟨10,[23,24],[.any,.any,Qb G,pP v L G,.ptr 1 (Xf [Qb y]) 0,.any,.ref 2 0 0,.any,.fn 230 [pP v L G,.ptr 1 (Xf [Qb y]) 0],.any],[(23,I v),(24,I k)],[.con 0 3 (Xf (ZT v L G)),.con 0 1 (Xf [Qb y]),.row 0 4 (Xf zeroR)]⟩) (fun k=>k≤v) (fun k=>v-k) 0 (by omega)
  (Xi rfl ⟨.inl rfl,.inl rfl,.inr rfl,.inr eP.symm,.inr rfl,.inl rfl,.inr rfl,.inl rfl,.inr (by rw[eP];rfl),.inl rfl,trivial⟩ (by simp[Xw,XA,I]) (by unfold ZT;rw[XE,ey];rfl)) ?_
 intro k hk next
 have w1:=wj k (by omega);by_cases hk2:k<v
 rotate_left
 ·obtain rfl:k=v:=by omega
  refine Xk ?_;simp(disch:=omega)only[↓Xd,wG,seval];refine X0 c2 (X2 _) ?_;simp(disch:=omega)only[qA,qC,zeroR,↓Xd,wG,seval];rw[hR];exact Dv (r1:=.cell 6 28) (r2:=.tmp 7) rfl (Xs XR rfl rfl rfl) rfl (Q1 (Xa _) rfl) (Q1 (X5 _) rfl)
 have nx:=next (k+1)
 clear next
 have f1:(k<v)=True:=eq_true hk2;refine XG 19 ?_;simp(disch:=omega)only[f1,↓Xd,wG,seval];refine Run.sub ?_ (XC 3 rfl);refine Run.sub ?_ (Xy 9 rfl rfl (by omega));have cK:=c3 k hk2;have hg:k<G.length:=by omega
 have v0:Xn (fun i=>G.getD i 0) (k*4)=(qC (G.getD k 0)).getD 0 .any:=Z7 qC 4 0 G k (by omega);have v1:∀j,j<4→Xn (fun i=>G.getD i 0) (k*4+j)=(qC (G.getD k 0)).getD j .any:=fun j hj=>KS qC 4 0 G k j hj
 have cS:=Mp (G.getD k 0) (G.getD k 0) (hq k hk2) (hq k hk2);rw[decide_eq_true rfl]at cS;have fg:(k<G.length)=True:=eq_true hg;refine Xk ?_;simp(disch:=omega)only[AS.put,List.set,f1,↓Xd,wG,seval];refine X0 cK (X2 _) ?_;simp(disch:=omega)only[Xr,w1,fg,v0,v1,qA,qC,↓Xd,wG,seval];refine X0 cS (X2 _) ?_;simp(disch:=omega)only[w1,↓Xd,wG,seval];exact nx _ (by omega) (by omega) (XT (m:=3) (Nat.zero_le _) rfl ⟨.inl rfl,.inl rfl,.inr (Xr G).symm,.inr rfl,.inr rfl,.inl rfl,.inr rfl,.inl rfl,.inr rfl,.inl rfl,trivial⟩ (by simp[Xw,XA,I]) rfl (by simp[XW,bP,bY,bG]) (by simp[XW]) (by simp[bZ,bC1,bC2]))
structure ChkS (v:Nat)(L:List Ln)(G x y:List Rat)(E:Nat):Prop where
 v0:v<49
 m0:L.length<49
 g0:G.length=v
 x0:x.length=v
 y0:y.length=L.length
 a0:∀z∈L,z.a.length=v
 q1:∀i k,qb (lA L i k)+qb (y.getD i 0)≤E
 q2:∀i,qb (lB L i)+qb (y.getD i 0)≤E
 q3:∀i k,qb (lA L i k)+qb (x.getD k 0)≤E
 q4:∀k,qb (lG G k)+qb (x.getD k 0)≤E
 q5:∀i,qb (lB L i)≤rm
 e0:E≤2083000
theorem O8 {v:Nat}{L:List Ln}{G x y:List Rat}{val:Rat}{E:Nat}(h:ChkS v L G x y E)(hv:qb val≤rm)(ho:IsOpt v L.length (lA L) (lB L) (lG G) (fun k=>x.getD k 0) (fun i=>y.getD i 0) val) :
  Fn Tryz.prog 52 [I7 v L G,FW 0 x y val] (I 0):=by
 obtain⟨h1,h2,h3,h4,h5,h6,q1,q2,q3,q4,q5,q6⟩:=h;have q7:∀k,qb (lG G k)≤rm:=fun k=>by have:=q4 k;unfold rm;omega
 have c1:=Oa v L G (by omega) (by omega) h3 h6;have c2:=p8 v L G y E h1 h2 h3 h5 h6 (fun i k _=>q1 i k) (fun i _=>q2 i) q6 (fun r hr=>by
  obtain⟨i,hi,rfl⟩:=List.getElem_of_mem hr;have:=ho.dpos i (by omega);rwa[List.getD_eq_getElem?_getD,List.getElem?_eq_getElem hi]at this) (fun k hk=>ho.dual k hk) (fun k _=>q7 k)
 rw[show XB (fun i=>(L.getD i K9).b*y.getD i 0) L.length=val from ho.val2]at c2;have c3:=ir v L G x E h4 h1 (by omega) h6 (fun z hz i _=>by
  obtain⟨j,hj,rfl⟩:=List.getElem_of_mem hz;have:=q3 j i;unfold lA at this;rwa[List.getD_eq_getElem?_getD (i:=j),List.getElem?_eq_getElem hj]at this) q6 (fun z hz=>by
  obtain⟨j,hj,rfl⟩:=List.getElem_of_mem hz;have:=q5 j;unfold lB at this;rwa[List.getD_eq_getElem?_getD (i:=j),List.getElem?_eq_getElem hj]at this) (fun z hz=>by
  obtain⟨j,hj,rfl⟩:=List.getElem_of_mem hz;have:=ho.feas j hj;unfold lA lB at this;rwa[List.getD_eq_getElem?_getD (i:=j),List.getElem?_eq_getElem hj]at this)
 have c4:=Lu G x E (by omega) (by omega) (fun i _=>q4 i) q6;rw[h3,show XB (fun i=>G.getD i 0*x.getD i 0) v=val from ho.val1]at c4;have c5:=Mp val val hv hv;rw[decide_eq_true rfl]at c5;have cR:Fn Tryz.prog 138 [I7 v L G,FW 0 x y val] (.bool true):=by
  refine Fn.intro (fn:=Tryz.f138) Tryz.call138 Tryz.func138 rfl mixed 9 [10] [6] [] (by kernel_rfl) (Nat.le_of_ble_eq_true rfl) (JY (Ks v L G) (Bz 0 x y val)) (XG 9 ?_);simp(disch:=omega)only[AS.start,I7,FW,BM,XE,Xr,List.cons_append,List.nil_append,↓Xd,wG,seval];refine Run.sub (s':=⟨9,[10],[.any,.any,.ref 0 0 0,.ref 1 0 0,.any,.any,.any,.any,.any],[],[.row 0 3 (Xf (ZT v L G)),.row 0 7 (Xf (BM 0 x y val))]⟩) ?_ (Xi rfl ⟨.inl rfl,.inl rfl,.inr rfl,.inr rfl,.inl rfl,.inl rfl,.inl rfl,.inl rfl,.inl rfl,trivial⟩ trivial (by rfl));refine Run.sub ?_ (XC 0 rfl);refine Run.sub ?_ (XC 1 rfl);refine Run.sub ?_ (Xy 2 rfl rfl (by omega));refine Run.sub ?_ (Xy 3 rfl rfl (by omega));refine Xk ?_;simp(disch:=omega)only[AS.put,List.set,ZT,BM,List.cons_append,List.nil_append,qC,Int.reduceEq,↓Xd,wG,seval];refine X0 c2 (X2 _) ?_;simp(disch:=omega)only[qA,qC,ZT,BM,List.cons_append,List.nil_append,↓Xd,wG,seval];refine X0 c3 (X2 _) ?_;simp(disch:=omega)only[qA,qC,ZT,BM,List.cons_append,List.nil_append,↓Xd,wG,seval];refine X0 c5 (X2 _) ?_;simp(disch:=omega)only[qA,qC,ZT,BM,List.cons_append,List.nil_append,↓Xd,wG,seval];refine X0 c4 (X2 _) ?_;simp(disch:=omega)only[qA,qC,ZT,BM,List.cons_append,List.nil_append,↓Xd,wG,seval];refine X0 c5 (X2 _) ?_;simp(disch:=omega)only[qA,qC,ZT,BM,List.cons_append,List.nil_append,↓Xd,wG,seval];exact Xo (v:=.bool true) rfl rfl (X5 _) rfl
 refine Fn.intro (fn:=Tryz.f52) Tryz.call52 Tryz.func52 rfl mixed 6 [] [] [] (by kernel_rfl) (Nat.le_of_ble_eq_true rfl) (JY (Ks v L G) (Bz 0 x y val)) (Xk ?_);simp(disch:=omega)only[AS.start,I7,FW,BM,XE,Xr,List.cons_append,List.nil_append,↓Xd,wG,seval];refine X0 c1 (X2 _) ?_;simp(disch:=omega)only[I7,FW,BM,XE,Xr,List.cons_append,List.nil_append,↓Xd,wG,seval];refine X0 cR (X2 _) ?_;simp(disch:=omega)only[↓Xd,wG,seval];exact Xo (v:=I 0) rfl rfl (Xb _) rfl
theorem Ek (b:BB)(g:GG):∀x∈Bu b g,x∈Ja b g:=fun x hx=>by
 unfold Bu at hx;unfold Ja;rcases List.mem_append.1 hx with h |h
 ·refine List.mem_append.2 (.inl ?_)
  unfold Sb at h;unfold RZ;simp only[List.mem_cons,List.not_mem_nil,or_false]at h ⊢;rcases h with h |h |h |h |h |h |h |h |h |h |h <;> simp[h]
 ·exact List.mem_append.2 (.inr h)
theorem CT (b:BB)(g:GG):(Bu b g).length=17:=rfl
theorem jy {b:BB}{g:GG}(hb:bS b)(hg:gS g):(∀i k,qb (lA (Bu b g) i k)≤5700)∧∀i,qb (lB (Bu b g) i)≤5700:=by
 have k1:=Gz hb hg;have e0:qb 0≤5700:=by decide +kernel
 refine⟨fun i k=>?_,fun i=>?_⟩
 ·unfold lA
  by_cases hi:i<(Bu b g).length
  ·have hm:=Ek b g _ (Qp K9 hi)
   by_cases hk:k<((Bu b g).getD i K9).a.length
   ·exact(k1 _ hm).1 _ (Qp 0 hk)
   ·rw[List.getD_eq_getElem?_getD (i:=k),List.getElem?_eq_none (by omega)];exact e0
  ·rw[List.getD_eq_getElem?_getD (i:=i),List.getElem?_eq_none (by omega)];exact e0
 ·unfold lB
  by_cases hi:i<(Bu b g).length
  ·exact(k1 _ (Ek b g _ (Qp K9 hi))).2
  ·rw[List.getD_eq_getElem?_getD (i:=i),List.getElem?_eq_none (by omega)];exact e0
theorem Rq (k:Nat):qb (lG goal5 k)≤5700:=by
 have e0:qb 0≤5700:=by decide +kernel
 have e1:qb 1≤5700:=by decide +kernel
 unfold lG goal5
 match k with
 |0=>exact e0
 |1=>exact e0
 |2=>exact e0
 |3=>exact e0
 |4=>exact e1
 |k+5=>exact e0
theorem YS (k:Nat)(h:k≠4):lG goal5 k=0:=by
 match k,h with
 |0,_=>rfl
 |1,_=>rfl
 |2,_=>rfl
 |3,_=>rfl
 |4,h=>exact absurd rfl h
 |k+5,_=>rfl
theorem tu {b:BB}{g:GG}(hb:bS b)(hg:gS g)(h1:Ag b=true)(h2:Zo g=true) :
  ∃x y val,Fn Tryz.prog 51 [I7 5 (Bu b g) goal5] (.tup [FW 0 x y val,I 0])∧x.length=5∧y.length=17∧(∀i,qb (x.getD i 0)≤1356773)∧(∀i,qb (y.getD i 0)≤1373878)∧IsOpt 5 17 (lA (Bu b g)) (lB (Bu b g)) (lG goal5) (fun k=>x.getD k 0) (fun i=>y.getD i 0) val:=by
 obtain⟨q1,q2,q3⟩:=EE.1 h1;obtain⟨⟨q4,q5,q6⟩,q7⟩:=BG.1 h2;have k2:=Wd (b:=b) (g:=g) (Rat.le_of_lt q4) (Rat.le_of_lt q3);obtain⟨k3,k4⟩:=jy hb hg;have e0:qb 0≤5700:=by decide +kernel
 have e1:qb 1≤5700:=by decide +kernel
 refine SJ 5 (Bu b g) goal5 5700 678386 (by omega) (by rw[CT];omega) rfl (fun x hx=>ID b g x (Ek b g x hx)) (fun i hi=>k2 _ (Ek b g _ (Qp K9 hi))) 9 (by rw[CT];omega) (fun k hk=>?_) k3 k4 Rq e0 e1 (by rw[CT];omega) (by omega) (by rw[CT];omega) (by omega) (by omega) 4 YS
 match k,hk with
 |0,_=>rfl
 |1,_=>rfl
 |2,_=>rfl
 |3,_=>rfl
 |4,_=>rfl
 |k+5,h=>omega
theorem wq (p q:Rat×Rat):XD Dn 8 (0,0) [p,q] 0=.bool (sg (p.1))∧XD Dn 8 (0,0) [p,q] 1=X8 (X9 (p.1).num.natAbs)∧XD Dn 8 (0,0) [p,q] 2=.bool false∧XD Dn 8 (0,0) [p,q] 3=X8 (X9 (qd (p.1)))∧XD Dn 8 (0,0) [p,q] 4=.bool (sg (p.2))∧XD Dn 8 (0,0) [p,q] 5=X8 (X9 (p.2).num.natAbs)∧XD Dn 8 (0,0) [p,q] 6=.bool false∧XD Dn 8 (0,0) [p,q] 7=X8 (X9 (qd (p.2)))∧XD Dn 8 (0,0) [p,q] 8=.bool (sg (q.1))∧XD Dn 8 (0,0) [p,q] 9=X8 (X9 (q.1).num.natAbs)∧XD Dn 8 (0,0) [p,q] 10=.bool false∧XD Dn 8 (0,0) [p,q] 11=X8 (X9 (qd (q.1)))∧XD Dn 8 (0,0) [p,q] 12=.bool (sg (q.2))∧XD Dn 8 (0,0) [p,q] 13=X8 (X9 (q.2).num.natAbs)∧XD Dn 8 (0,0) [p,q] 14=.bool false∧XD Dn 8 (0,0) [p,q] 15=X8 (X9 (qd (q.2))):=by
 refine⟨rfl,rfl,rfl,rfl,rfl,rfl,rfl,rfl,rfl,rfl,rfl,rfl,rfl,rfl,rfl,rfl⟩
theorem N3 (l m n:List Int)(h1:DL l)(h2:DL m)(h3:DL n) :
  Fn Tryz.prog 10 [X8 l,X8 m,X8 n] (.bool true):=by
 have hr:=sY l;have c1:=oE l h1;have c2:=Ym n (N6 l) h3 hr;have c3:=oV m (N6 l) h2 hr;obtain⟨sb,gb⟩:=rq n (N6 l) hr;obtain⟨sg,gg⟩:=oW m (N6 l) hr;generalize N6 l=L at *;generalize Yk n L=b at *;generalize CY m L=g at *;have tb:=sb.s;have tg:=sg.s;obtain⟨u1,u2,u3,u4⟩:=id tb;obtain⟨w1,w2,w3,w4,w5⟩:=id tg;have cp:=Sq b g (by omega) (by omega) (by omega) (by omega) (by omega) (by omega);obtain⟨x,y,val,cs,lx,ly,bx,by',ho⟩:=tu tb tg gb gg;obtain⟨im,ox,ox4⟩:=oB ho;obtain⟨p,q,M⟩:=RE b g tb tg gb gg;have m0:=M.fn;have mo:=M.ok;obtain⟨z1,z2,z3,z4,z5⟩:=M.z;clear M;rw[FG im]at m0 mo z5;obtain⟨k3,k4⟩:=jy tb tg;have ck:∀x':List Rat,x'.length=5→(∀i,qb (x'.getD i 0)≤1356773)→ChkS 5 (Bu b g) goal5 x' y 1380000:=fun x' hx' hb'=>⟨by omega,by rw[CT];omega,rfl,hx',by rw[ly,CT],fun z hz=>ID b g z (Ek b g z hz),
  fun i k=>by have:=k3 i k;have:=by' i;omega,fun i=>by have:=k4 i;have:=by' i;omega,fun i k=>by have:=k3 i k;have:=hb' k;omega,fun k=>by have:=Rq k;have:=hb' k;omega,fun i=>by have:=k4 i;unfold rm;omega,by omega⟩
 have cc:=O8 (ck x lx bx) (val:=val) (by unfold rm;omega) ho;have z0:qb 0≤1356773:=by decide +kernel
 have bo:∀i,qb ([p.1,p.2,q.1,q.2,val].getD i 0)≤1356773:=fun i=>by
  match i with
  |0=>exact z1
  |1=>exact z2
  |2=>exact z3
  |3=>exact z4
  |4=>exact z5
  |i+5=>exact z0
 have ho2:IsOpt 5 17 (lA (Bu b g)) (lB (Bu b g)) (lG goal5) (fun k=>[p.1,p.2,q.1,q.2,val].getD k 0) (fun i=>y.getD i 0) val :=
  ⟨(Mh b g _).2 mo,ho.dpos,ho.dual,by rw[Gi 0];rfl,ho.val2⟩
 have co:=O8 (ck [p.1,p.2,q.1,q.2,val] rfl bo) (val:=val) (by unfold rm;omega) ho2;have sk:=Mp val val (by unfold rm;omega) (by unfold rm;omega);rw[decide_eq_true rfl]at sk;have gk:Fn Tryz.prog 29 [bA b,gA g,qA val,Wf [(x.getD 0 0,x.getD 1 0),(x.getD 2 0,x.getD 3 0)]] (I 0):=by
  have b0:=bx 0;have b1:=bx 1;have b2:=bx 2;have b3:=bx 3;have h:=Hp b g val [(x.getD 0 0,x.getD 1 0),(x.getD 2 0,x.getD 3 0)] tb tg (by omega) (by simp) (by simp only[List.mem_cons,List.not_mem_nil,or_false];rintro a (rfl |rfl) <;> exact⟨by simp only;omega,by simp only;omega⟩);unfold Zg at h;rw[gb,gg]at h;rwa[show(true && true)=true from rfl,if_pos rfl,if_pos ⟨rfl,ox⟩]at h
 have cl:=iJ;obtain⟨Lr,hLr⟩:∃Lr,Lr=Bu b g:=⟨_,rfl⟩
 have lr:Lr.length=17:=by rw[hLr];rfl
 rw[←hLr]at cp cs cc co;clear hLr ho ho2 ck ox mo im k3 k4;have xg:=jJ (fun i=>x.getD i 0);have eP:I7 5 Lr goal5=.agg [I 5,.sl 17 85 (XD Ka 5 K9 Lr) false,.sl goal5.length (goal5.length*4) (Xn fun i=>goal5.getD i 0) false]:=by unfold I7;rw[XE,Xr,lr];rfl
 have eA:FW 0 x y val=.agg ([I 0,.sl 5 20 (Xn fun i=>x.getD i 0) false,.sl 17 68 (Xn fun i=>y.getD i 0) false] ++ qC val):=by unfold FW BM;rw[Xr,Xr,lx,ly]
 rw[eP]at cp cs cc co;rw[eA]at cs cc;have pg:=wq p q;refine Fq Tryz.call10 Tryz.func10 18 [29,34] [] [] (by simp[Xc]) (Xk ?_);simp(disch:=omega)only[AS.start,↓Xd,wG,seval];refine X0 c1 (X2 _) ?_;simp(disch:=omega)only[vA,vC,qA,qC,bA,QW,gA,QK,ZU,List.length_cons,List.length_nil,↓Xd,wG,seval];refine X0 c2 (X2 _) ?_;simp(disch:=omega)only[vA,vC,qA,qC,bA,QW,gA,QK,ZU,List.length_cons,List.length_nil,↓Xd,wG,seval];refine X0 c3 (X2 _) ?_;simp(disch:=omega)only[vA,vC,qA,qC,bA,QW,gA,QK,ZU,List.length_cons,List.length_nil,↓Xd,wG,seval];refine X0 cp (X2 _) ?_;simp(disch:=omega)only[vA,vC,qA,qC,bA,QW,gA,QK,ZU,List.length_cons,List.length_nil,↓Xd,wG,seval];refine X0 cs (X2 _) ?_;simp(disch:=omega)only[BM,List.cons_append,List.nil_append,vA,vC,qA,qC,bA,QW,gA,QK,ZU,List.length_cons,List.length_nil,↓Xd,wG,seval];refine X0 m0 (X2 _) ?_;simp(disch:=omega)only[BM,List.cons_append,List.nil_append,vA,vC,qA,qC,bA,QW,gA,QK,ZU,List.length_cons,List.length_nil,↓Xd,wG,seval];refine X0 cc (X2 _) ?_;simp(disch:=omega)only[BM,List.cons_append,List.nil_append,xg,pg,vA,vC,qA,qC,bA,QW,gA,QK,ZU,List.length_cons,List.length_nil,↓Xd,wG,seval];refine X0 sk (X2 _) ?_;simp(disch:=omega)only[BM,List.cons_append,List.nil_append,xg,pg,vA,vC,qA,qC,bA,QW,gA,QK,ZU,List.length_cons,List.length_nil,↓Xd,wG,seval];refine X0 co ⟨Weak.rfl' _,ZR ⟨Weak.rfl' _,JD qC 4 0 (fun _=>rfl) [p.1,p.2,q.1,q.2,val] _ _ _ _ rfl rfl rfl,by rw[Xr,ly];exact Weak.rfl' _,Weak.rfl' _,Weak.rfl' _,Weak.rfl' _,Weak.rfl' _,trivial⟩,trivial⟩ ?_;simp(disch:=omega)only[BM,List.cons_append,List.nil_append,xg,pg,vA,vC,qA,qC,bA,QW,gA,QK,ZU,List.length_cons,List.length_nil,↓Xd,wG,seval];refine X0 gk ⟨Weak.rfl' _,Weak.rfl' _,Weak.rfl' _,JD Dn 8 (0,0) (fun _=>rfl) [(x.getD 0 0,x.getD 1 0),(x.getD 2 0,x.getD 3 0)] _ _ _ _ rfl rfl rfl,trivial⟩ ?_;simp(disch:=omega)only[BM,List.cons_append,List.nil_append,xg,pg,vA,vC,qA,qC,bA,QW,gA,QK,ZU,List.length_cons,List.length_nil,↓Xd,wG,seval];refine X0 cl (X2 _) ?_;simp(disch:=omega)only[BM,List.cons_append,List.nil_append,xg,pg,vA,vC,qA,qC,bA,QW,gA,QK,ZU,List.length_cons,List.length_nil,↓Xd,wG,seval];exact Xo (v:=.bool true) rfl rfl (X5 _) rfl
end
end Go.Ab.N
