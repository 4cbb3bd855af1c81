/- Contracts of functions, for every argument that fits. -/
import Derived.Test.YtcmfnmceomhgcaaGreatC9
import Derived.Test.YtcmfnmceomhgcaaGreatC6
set_option linter.unusedSimpArgs false
set_option linter.unusedVariables false
open Go.Ab.AS renaming start→O_,put→ZAt
open Go.Ab.AV renaming bool→ZAX
open List renaming map_nil→ZB6,forall_mem_cons→ZCd,flatMap_cons→ZCu,flatMap_nil→ZC0,set→ZDJ
open Nat renaming lt_or_ge→ZDo
open Rat renaming divInt→P',mul_eq_zero→ZA9
namespace Go.Ab.N
open Go Go.RowKit Go.Proofs
theorem ZBD:type_of%@Rat.not_le:=@Rat.not_le
noncomputable section
set_option maxRecDepth 10000
set_option maxHeartbeats 4000000
open Classical
def Fm:List AV:=[.bool false,.sl 0 0 (fun _=>.any) false,.bool false,.sl 0 0 (fun _=>.any) false]
theorem N8 (b:BB)(g:GG)(h1:vb b.c≤1400)(h2:vb g.p≤1400)(h3:vb g.q≤1400)(h4:vb g.n≤1400):Fn Tryz.prog 84 [bA b,gA g] (P7 5 (JB b g) TAO):=by
 obtain⟨R,hR⟩:∃R,R=P7 5 (JB b g) TAO:=⟨_,rfl⟩
 have sR:A_ R:=hR▸BT _ _ _;have c1:=D9 1 1 ⟨by omega,by omega⟩ ⟨by omega,by omega⟩;rw[show P' 1 1=1 by decide +kernel]at c1;have cm:=D9 (-1) 1 ⟨by omega,by omega⟩ ⟨by omega,by omega⟩;rw[show P' (-1) 1 = -1 by decide +kernel]at cm;have c16:=D9 16 1 ⟨by omega,by omega⟩ ⟨by omega,by omega⟩;rw[show P' 16 1=16 by decide +kernel]at c16;have cr:=Zd g.E_;have cq:=T5 g.n;have cp:=BE g.p b.c;have cs:=BE g.q b.c;have cl:=MI g.n (by unfold rm;omega);rw[←hR];refine q_ (fn:=Tryz.f84) Tryz.call84 Tryz.func84 rfl mixed 18 [49,50,51] [2,3005,4,16,17007,18,20,21013,21,22016,22,23017] [16,20,21,22] (by kernel_rfl) (K_ rfl) (Kk (QU b) (QA g)) (XI 10 ?_);simp(disch:=omega)only[O_,bA,gA,Jc,Jd,Xl,↓Xc,wG,seval];refine d_ (s':=⟨18,[49,50,51],[.any,.any,.ref 0 0 0,.ref 1 0 0,.ref 2 0 0,.any,.any,.any,.any,.any,.any,.any,.any,.any,.any,.any,.any,.any],[],[.row 0 20 (Xf (bC b)),.row 0 32 (Xf (gC g)),.row 0 3 (Xf [I 0,.sl 0 0 (fun _=>.any) true,.sl 0 0 (fun _=>.any) true])]⟩) ?_ (Xh rfl (by simp[Xo]) trivial (by rw[Jc,Jd];rfl));refine d_ ?_ (Xz 0 rfl);refine d_ ?_ (Xz 1 rfl);refine d_ ?_ (XK 2 rfl rfl);refine d_ ?_ (XK 3 rfl rfl);refine d_ (s':=⟨18,[49,50,51],[.any,.any,bP b,gP g,.ref 2 0 0,.any,.any,.any,.any,.any,.any,.any,.any,.any,.any,.any,.any,.any],[],[.con 0 20 (Xf (bC b)),.con 0 32 (Xf (gC g)),.row 0 3 (Xf [I 0,.sl 0 0 (fun _=>.any) true,.sl 0 0 (fun _=>.any) true])]⟩) ?_ (Xh rfl (by simp[ZAt,Xo,bP,gP]) trivial rfl);refine XI 15 ?_;simp(disch:=omega)only[↓Xc,wG,seval];refine X2 c1 rfl ?_;simp(disch:=omega)only[qA,qC,↓Xc,wG,seval];have w0:=QB false;have hz':∀ (H:List AO) (j:Nat),j<4→Jj H (Xf Fm j) (Xf (qC 0) j):=fun H j hj=>by
  match j,hj with
  |0,_=>exact Xy w0.1
  |1,_=>exact Xy w0.2.1
  |2,_=>exact Xy w0.2.2.1
  |3,_=>exact Xy w0.2.2.2.1
  |j+4,h=>omega
 refine d_ (s':=⟨18,[49,50,51],[.any,.any,bP b,gP g,.ref 2 0 0,.ref 3 0 0,.ref 4 0 0,.any,.any,.any,.any,.any,.any,.any,.any,.any,.any,.any],[],[.con 0 20 (Xf (bC b)),.con 0 32 (Xf (gC g)),.row 0 3 (Xf [I 0,.sl 0 0 (fun _=>.any) true,.sl 0 0 (fun _=>.any) true]),.row 0 4 (Xf Fm),.row 0 4 (Xf (qC 1))]⟩) ?_ (Xh rfl (by simp[Xo]) trivial (by rfl));refine d_ ?_ (Qe 3 (Xf (qC 0)) rfl (hz' _));refine d_ ?_ (Xz 3 rfl);refine d_ ?_ (Xz 4 rfl);refine d_ ?_ (XK 5 rfl rfl);refine d_ ?_ (XK 6 rfl rfl);refine d_ (s':=⟨18,[49,50,51],[.any,.any,bP b,gP g,.ref 2 0 0,JN 0,JN 1,.any,.any,.any,.any,.any,.any,.any,.any,.any,.any,.any],[],[.con 0 20 (Xf (bC b)),.con 0 32 (Xf (gC g)),.row 0 3 (Xf [I 0,.sl 0 0 (fun _=>.any) true,.sl 0 0 (fun _=>.any) true]),.con 0 4 (Xf (qC 0)),.con 0 4 (Xf (qC 1))]⟩) ?_ (Xh rfl (by simp[ZAt,Xo,JN]) trivial rfl);refine XI 30 ?_;simp(disch:=omega)only[JN,qA,qC,↓Xc,wG,seval];refine d_ (s':=⟨18,[49,50,51],[.any,.any,bP b,gP g,.ref 2 0 0,JN 0,JN 1,.ref 5 0 0,.ref 6 0 0,.any,.any,.any,.any,.any,.any,.any,.any,.any],[],[.con 0 20 (Xf (bC b)),.con 0 32 (Xf (gC g)),.row 0 3 (Xf [I 0,.sl 0 0 (fun _=>.any) true,.sl 0 0 (fun _=>.any) true]),.con 0 4 (Xf (qC 0)),.con 0 4 (Xf (qC 1)),
  .row 0 3 (Xf [I 5,.sl 0 0 (fun _=>.any) true,.sl 5 20 (Xf (TAO.flatMap qC)) false]),.row 0 1 (Xf [.fn 164 [.ref 5 0 0]])]⟩) ?_ (Xh rfl (by exact⟨.inl rfl,.inl rfl,.inr rfl,.inr rfl,.inr rfl,.inr rfl,.inr rfl,.inr rfl,.inr rfl,.inl rfl,.inl rfl,.inl rfl,.inl rfl,.inl rfl,.inl rfl,.inl rfl,.inl rfl,.inl rfl,trivial⟩) trivial (by rfl))
 refine d_ ?_ (FP (Xw KX 5 KN []));refine d_ ?_ (Qe 5 (Xf [I 5,.osl 7 0 5 0 0,XX TAO]) rfl (fun j hj=>by
  match j,hj with
  |0,_=>exact XD _ _
  |1,_=>exact A5 (f:=Xw KX 5 KN []) (n:=0) rfl
  |2,_=>exact Xy (QC rfl (N' _) fun j hj=>by rw[Ii TAO j hj];exact U_ _)
  |j+3,h=>omega))
 refine d_ ?_ (Xz 6 rfl);refine d_ (s':=⟨18,[49,50,51],[.any,.any,bP b,gP g,.ref 2 0 0,JN 0,JN 1,.ref 5 0 0,.ref 6 0 0,.any,.any,.any,.any,.any,.any,.any,.any,.any],[],(As b g 0 []).take 8⟩) ?_ (Xh rfl (by simp[Xo]) trivial (by rfl));refine XI 29 ?_;have gf:=gF g;have bf:=bF b;simp(disch:=omega)only[As,List.take,Zk,AU,gP,gf,Xl,qA,qC,↓Xc,wG,seval];refine X0 cr (X1 _) ?_;simp(disch:=omega)only[As,Zk,AU,gP,gf,Xl,qA,qC,↓Xc,wG,seval];refine X0 cl (X1 _) ?_;simp(disch:=omega)only[Zk,AU,qA,qC,↓Xc,wG,seval];refine X2 cm rfl ?_;simp(disch:=omega)only[Zk,AU,qA,qC,↓Xc,wG,seval];have k6:∀n Ls,(As b g n Ls)[6]?=some (.con 0 1 (Xf [.fn 164 [.ref 5 0 0]])):=fun _ _=>rfl
 have k8:∀n Ls,(As b g n Ls)[8]?=some (.row 0 4 (Xf (qC (-g.E_)))):=fun _ _=>rfl
 have k9:∀n Ls,(As b g n Ls)[9]?=some (.row 0 4 (Xf (qC (Qj g.n)))):=fun _ _=>rfl
 have k10:∀n Ls,(As b g n Ls)[10]?=some (.row 0 4 (Xf (qC (-1)))):=fun _ _=>rfl
 have k6l:∀n Ls l,(As b g n Ls ++ l)[6]?=some (.con 0 1 (Xf [.fn 164 [.ref 5 0 0]])):=fun _ _ _=>rfl
 have k8l:∀n Ls l,(As b g n Ls ++ l)[8]?=some (.row 0 4 (Xf (qC (-g.E_)))):=fun _ _ _=>rfl
 have TCd:∀n Ls x l,(As b g n Ls ++ x :: l)[11]?=some x:=fun _ _ _ _=>rfl
 have kL:∀n Ls l,(As b g n Ls ++ l).length=11+l.length:=fun n Ls l=>by rw[j_];rfl
 have kL0:∀n Ls,(As b g n Ls).length=11:=fun n Ls=>rfl
 have TCe:∀n Ls x y l,(As b g n Ls ++ x :: l).set 11 y=As b g n Ls ++ y :: l:=fun _ _ _ _ _=>rfl
 have kb:=fun n Ls=>Qd (Ft b g n Ls)
 have TEk:∀ (n:Nat) (Ls:List Ln) (r:Rat) (l:List Rat),Ls.length=n→n<1000→l.length≤5→0<l.length →
   G' Tryz.prog 164 [qA r,.sl l.length (l.length*4) (Xm fun i=>l.getD i 0) true,.ref 5 0 0] (As b g n Ls) (.tup []) (As b g (n+1) (Ls ++ [⟨JX (fun i=>l.getD i 0) l.length,r⟩]))∧K5 (As b g n Ls) (As b g (n+1) (Ls ++ [⟨JX (fun i=>l.getD i 0) l.length,r⟩])):=fun n Ls r l e1 e2 e3 e4=>by
  have:=tP b g n l.length Ls r (fun i=>l.getD i 0) e1 e2 e3 e4 [] (fun o ho=>absurd ho (V_));rw[ZAQ,ZAQ]at this;exact this
 obtain⟨ln,hln⟩:∃ln:List Rat→Rat→Ln,ln=fun l r=>⟨JX (fun i=>l.getD i 0) l.length,r⟩:=⟨_,rfl⟩
 have TBu:∀ (n:Nat) (Ls:List Ln) (r:Rat) (l:List Rat),Ls.length=n→n<1000→l.length≤5→0<l.length →
   G' Tryz.prog 164 [qA r,.sl l.length (l.length*4) (Xm fun i=>l.getD i 0) true,.ref 5 0 0] (As b g n Ls) (.tup []) (As b g (n+1) (Ls ++ [ln l r]))∧K5 (As b g n Ls) (As b g (n+1) (Ls ++ [ln l r])):=fun n Ls r l e1 e2 e3 e4=>by rw[hln];exact TEk n Ls r l e1 e2 e3 e4
 have TCC:∀ (n:Nat) (Ls:List Ln) (r:Rat) (l:List Rat) (x:List AO),(∀o∈x,∀q,Q0 q o)→Ls.length=n→n<1000→l.length≤5→0<l.length →
   G' Tryz.prog 164 [qA r,.sl l.length (l.length*4) (Xm fun i=>l.getD i 0) true,.ref 5 0 0] (As b g n Ls ++ x) (.tup []) (As b g (n+1) (Ls ++ [ln l r]) ++ x)∧K5 (As b g n Ls ++ x) (As b g (n+1) (Ls ++ [ln l r]) ++ x):=fun n Ls r l x hx e1 e2 e3 e4=>by rw[hln];exact tP b g n l.length Ls r (fun i=>l.getD i 0) e1 e2 e3 e4 x hx
 refine d_ (s':=⟨18,[49,50,51],[.any,.any,bP b,gP g,.ref 2 0 0,JN 0,JN 1,.ref 5 0 0,.ref 6 0 0,.ref 8 0 0,.ref 9 0 0,.ref 10 0 0,.any,.any,.any,.any,.any,.any],[],As b g 0 []⟩) ?_ (Xh rfl (by exact⟨.inl rfl,.inl rfl,.inr rfl,.inr rfl,.inr rfl,.inr rfl,.inr rfl,.inr rfl,.inr rfl,.inr rfl,.inr rfl,.inr rfl,.inl rfl,.inl rfl,.inl rfl,.inl rfl,.inl rfl,.inl rfl,trivial⟩) trivial (by rfl));refine Xk ?_;simp(disch:=omega)only[k6,k8,k9,k10,JN,qA,qC,↓Xc,wG,seval];have s1:=TBu 0 [] (0) [-1] rfl (by omega) (K_ rfl) (K_ rfl);refine XC rfl s1.1 s1.2 (kb _ _) ⟨U_ _,JU [-1] 1 4 _ rfl rfl rfl,U_ _,trivial⟩ ?_;simp(disch:=omega)only[k6,k8,k9,k10,JN,gP,bP,gf,bf,qA,qC,↓Xc,wG,seval];have s2:=TBu 1 [ln [-1] 0] (0) [0,0,-1] rfl (by omega) (K_ rfl) (K_ rfl);refine XC rfl s2.1 s2.2 (kb _ _) ⟨U_ _,JU [0,0,-1] 3 12 _ rfl rfl rfl,U_ _,trivial⟩ ?_;simp(disch:=omega)only[k6,k8,k9,k10,JN,gP,bP,gf,bf,qA,qC,↓Xc,wG,seval];have LI:∃LI:Nat→List Ln,LI 0=[ln [-1] 0,ln [0,0,-1] 0]∧LI 1=[ln [-1] 0,ln [0,0,-1] 0,ln [-g.E_,1] 0,ln [0,0,-g.E_,1] 0]∧LI 2=[ln [-1] 0,ln [0,0,-1] 0,ln [-g.E_,1] 0,ln [0,0,-g.E_,1] 0,ln [-g.E_,-1] 0,ln [0,0,-g.E_,-1] 0]:=⟨fun i=>match i with |0=>[ln [-1] 0,ln [0,0,-1] 0] |1=>[ln [-1] 0,ln [0,0,-1] 0,ln [-g.E_,1] 0,ln [0,0,-g.E_,1] 0] |_=>[ln [-1] 0,ln [0,0,-1] 0,ln [-g.E_,1] 0,ln [0,0,-g.E_,1] 0,ln [-g.E_,-1] 0,ln [0,0,-g.E_,-1] 0],rfl,rfl,rfl⟩
 obtain⟨LI,hL0,hL1,hL2⟩:=LI;rw[←hL0];have bl:∀i,Jl 11 (([.any,.any,bP b,gP g,.ref 2 0 0,JN 0,JN 1,.ref 5 0 0,.ref 6 0 0,.ref 8 0 0,.ref 9 0 0,.ref 10 0 0,.any,.any,.any,.any,.any,.any]:List AV).getD i .any):=fun i=>by
  match i with
  |0=>exact X4 Jg
  |1=>exact X4 Jg
  |2=>exact X4 (XR fun j _=>Xe (KI b) j)
  |3=>exact X4 (XR fun j _=>Xe (Kh g) j)
  |4=>exact QX
  |5=>exact X4 (XR fun j _=>Xe (XU 0) j)
  |6=>exact X4 (XR fun j _=>Xe (XU 1) j)
  |7=>exact QX
  |8=>exact QX
  |9=>exact QX
  |10=>exact QX
  |11=>exact QX
  |12=>exact X4 Jg
  |13=>exact X4 Jg
  |14=>exact X4 Jg
  |15=>exact X4 Jg
  |16=>exact X4 Jg
  |17=>exact X4 Jg
  |i+18=>exact X4 Jg
 have bl2:∀a∈([.any,.any,bP b,gP g,.ref 2 0 0,JN 0,JN 1,.ref 5 0 0,.ref 6 0 0,.ref 8 0 0,.ref 9 0 0,.ref 10 0 0,.any,.any,.any,.any,.any,.any]:List AV),Jl 11 a:=fun a ha=>by
  obtain⟨i,hi,rfl⟩:=ZAT ha;have:=bl i;rwa[K',V' hi]at this
 have bs:Jl 11 (.sl 2 8 (Xf (qC 1 ++ qC (-1))) true)=True:=L' (X4 (Qw fun j _=>Xe (l:=qC 1 ++ qC (-1)) (by simp[qC,Xd,X5]) j));have cx:∀x:Rat,∀o∈[AO.row 0 4 (Xf (qC x))],∀q,Q0 q o:=fun x o ho q=>by rw[Y_.1 ho];exact DR _ _ _
 have cxu:∀ (x:Rat) n Ls,J6 (As b g n Ls ++ [AO.row 0 4 (Xf (qC x))]):=fun x n Ls=>KO (Ft b g n Ls) fun o ho=>by rw[Y_.1 ho];simp
 refine Xj (fun i:Nat=>⟨18,[49,50,51],[.any,.any,bP b,gP g,.ref 2 0 0,JN 0,JN 1,.ref 5 0 0,.ref 6 0 0,.ref 8 0 0,.ref 9 0 0,.ref 10 0 0,.any,.any,.any,.any,.any,.any],[(49,.sl 2 8 (Xf (qC 1 ++ qC (-1))) true),(50,I 2),(51,I i)],As b g (2+2*i) (LI i)⟩) (fun i=>i≤2) (fun i=>2-i) 0 (by omega)
  (Xh rfl ⟨.inl rfl,.inl rfl,.inr rfl,.inr rfl,.inr rfl,.inr rfl,.inr rfl,.inr rfl,.inr rfl,.inr rfl,.inr rfl,.inr rfl,.inl rfl,.inl rfl,.inl rfl,.inl rfl,.inl rfl,.inl rfl,trivial⟩ (by exact⟨.inr rfl,.inr rfl,.inr rfl,trivial⟩) (by rfl)) ?_
 intro i hi next
 match i,hi with
 |0,_ =>
  have nx:=next 1
  refine Xk ?_;simp(disch:=omega)only[k6l,k8l,TCd,kL,kL0,TCe,JN,gP,bP,qA,qC,P_,↓Xc,wG,seval];have u00:=TCC 2 (LI 0) 0 [-g.E_,1] [.row 0 4 (Xf (qC (1)))] (cx _) (by rw[hL0];rfl) (by omega) (K_ rfl) (K_ rfl);refine XC rfl u00.1 u00.2 (Qd (cxu _ _ _)) ⟨U_ _,JU [-g.E_,1] 2 8 _ rfl rfl rfl,U_ _,trivial⟩ ?_;simp(disch:=omega)only[k6l,k8l,TCd,kL,kL0,TCe,JN,gP,bP,qA,qC,P_,↓Xc,wG,seval];have u01:=TCC 3 (LI 0 ++ [ln [-g.E_,1] 0]) 0 [0,0,-g.E_,1] [.row 0 4 (Xf (qC (1)))] (cx _) (by rw[hL0];rfl) (by omega) (K_ rfl) (K_ rfl);refine XC rfl u01.1 u01.2 (Qd (cxu _ _ _)) ⟨U_ _,JU [0,0,-g.E_,1] 4 16 _ rfl rfl rfl,U_ _,trivial⟩ ?_;simp(disch:=omega)only[k6l,k8l,TCd,kL,kL0,TCe,JN,gP,bP,qA,qC,P_,↓Xc,wG,seval];refine nx _ (by omega) (by omega) (XG (m:=11) (p_ _) rfl ⟨.inl rfl,.inl rfl,.inr rfl,.inr rfl,.inr rfl,.inr rfl,.inr rfl,.inr rfl,.inr rfl,.inr rfl,.inr rfl,.inr rfl,.inl rfl,.inl rfl,.inl rfl,.inl rfl,.inl rfl,.inl rfl,trivial⟩ (by exact⟨.inr rfl,.inr rfl,.inr rfl,trivial⟩) (by rw[hL1];simp only[hL0];rfl) bl2 (by simp[XP,bs]) (fun o ho=>GK b g _ _ o ho _ (N' _)))
 |1,_ =>
  have nx:=next 2
  refine Xk ?_;simp(disch:=omega)only[k6l,k8l,TCd,kL,kL0,TCe,JN,gP,bP,qA,qC,P_,↓Xc,wG,seval];have u10:=TCC 4 (LI 1) 0 [-g.E_,-1] [.row 0 4 (Xf (qC (-1)))] (cx _) (by rw[hL1];rfl) (by omega) (K_ rfl) (K_ rfl);refine XC rfl u10.1 u10.2 (Qd (cxu _ _ _)) ⟨U_ _,JU [-g.E_,-1] 2 8 _ rfl rfl rfl,U_ _,trivial⟩ ?_;simp(disch:=omega)only[k6l,k8l,TCd,kL,kL0,TCe,JN,gP,bP,qA,qC,P_,↓Xc,wG,seval];have u11:=TCC 5 (LI 1 ++ [ln [-g.E_,-1] 0]) 0 [0,0,-g.E_,-1] [.row 0 4 (Xf (qC (-1)))] (cx _) (by rw[hL1];rfl) (by omega) (K_ rfl) (K_ rfl);refine XC rfl u11.1 u11.2 (Qd (cxu _ _ _)) ⟨U_ _,JU [0,0,-g.E_,-1] 4 16 _ rfl rfl rfl,U_ _,trivial⟩ ?_;simp(disch:=omega)only[k6l,k8l,TCd,kL,kL0,TCe,JN,gP,bP,qA,qC,P_,↓Xc,wG,seval];refine nx _ (by omega) (by omega) (XG (m:=11) (p_ _) rfl ⟨.inl rfl,.inl rfl,.inr rfl,.inr rfl,.inr rfl,.inr rfl,.inr rfl,.inr rfl,.inr rfl,.inr rfl,.inr rfl,.inr rfl,.inl rfl,.inl rfl,.inl rfl,.inl rfl,.inl rfl,.inl rfl,trivial⟩ (by exact⟨.inr rfl,.inr rfl,.inr rfl,trivial⟩) (by rw[hL2];simp only[hL1];rfl) bl2 (by simp[XP,bs]) (fun o ho=>GK b g _ _ o ho _ (N' _)))
 |2,_ =>
  clear next
  have TFY:∀n Ls x y l,(As b g n Ls ++ x :: y :: l)[12]?=some y:=fun _ _ _ _ _=>rfl
  have TFZ:∀n Ls x y z l,(As b g n Ls ++ x :: y :: z :: l)[13]?=some z:=fun _ _ _ _ _ _=>rfl
  have TFa:∀n Ls x y w l,(As b g n Ls ++ x :: y :: l).set 12 w=As b g n Ls ++ x :: w :: l:=fun _ _ _ _ _ _=>rfl
  have TFb:∀n Ls x y z w l,(As b g n Ls ++ x :: y :: z :: l).set 13 w=As b g n Ls ++ x :: y :: w :: l:=fun _ _ _ _ _ _ _=>rfl
  refine XI 144 ?_;simp(disch:=omega)only[k6,k8,k9,k10,JN,gP,bP,gf,bf,qA,qC,↓Xc,wG,seval];have v0:=TBu 6 (LI 2) (g.force) [Qj g.n] (by rw[hL2];rfl) (by omega) (K_ rfl) (K_ rfl);refine XC rfl v0.1 v0.2 (kb _ _) ⟨U_ _,JU [Qj g.n] 1 4 _ rfl rfl rfl,U_ _,trivial⟩ ?_;simp(disch:=omega)only[k6,k8,k9,k10,JN,gP,bP,gf,bf,qA,qC,P_,↓Xc,wG,seval];have v1:=TBu 7 (LI 2 ++ [ln [Qj g.n] g.force]) (g.force) [0,0,Qj g.n] (by rw[hL2];rfl) (by omega) (K_ rfl) (K_ rfl);simp only[P_,e_,h_]at v1;refine XC rfl v1.1 v1.2 (kb _ _) ⟨U_ _,JU [0,0,Qj g.n] 3 12 _ rfl rfl rfl,U_ _,trivial⟩ ?_;simp(disch:=omega)only[k6,k8,k9,k10,JN,gP,bP,gf,bf,qA,qC,P_,↓Xc,wG,seval];have v2:=TBu 8 (LI 2 ++ [ln [Qj g.n] g.force,ln [0,0,Qj g.n] g.force]) (b.TAB) [Qj g.n,0,Qj g.n] (by rw[hL2];rfl) (by omega) (K_ rfl) (K_ rfl);simp only[P_,e_,h_]at v2;refine XC rfl v2.1 v2.2 (kb _ _) ⟨U_ _,JU [Qj g.n,0,Qj g.n] 3 12 _ rfl rfl rfl,U_ _,trivial⟩ ?_;simp(disch:=omega)only[k6,k8,k9,k10,JN,gP,bP,gf,bf,qA,qC,P_,↓Xc,wG,seval];refine X2 c16 rfl ?_;simp(disch:=omega)only[k6,k8,k9,k10,JN,gP,bP,gf,bf,qA,qC,↓Xc,wG,seval];have v3:=TBu 9 (LI 2 ++ [ln [Qj g.n] g.force,ln [0,0,Qj g.n] g.force,ln [Qj g.n,0,Qj g.n] b.TAB]) (16) [0,0,0,0,1] (by rw[hL2];rfl) (by omega) (K_ rfl) (K_ rfl);simp only[P_,e_,h_]at v3;refine XC rfl v3.1 v3.2 (kb _ _) ⟨U_ _,JU [0,0,0,0,1] 5 20 _ rfl rfl rfl,U_ _,trivial⟩ ?_;simp(disch:=omega)only[k6,k8,k9,k10,JN,gP,bP,gf,bf,qA,qC,P_,↓Xc,wG,seval];have v4:=TBu 10 (LI 2 ++ [ln [Qj g.n] g.force,ln [0,0,Qj g.n] g.force,ln [Qj g.n,0,Qj g.n] b.TAB,ln [0,0,0,0,1] 16]) (0) [0,0,0,0,-1] (by rw[hL2];rfl) (by omega) (K_ rfl) (K_ rfl);simp only[P_,e_,h_]at v4;refine XC rfl v4.1 v4.2 (kb _ _) ⟨U_ _,JU [0,0,0,0,-1] 5 20 _ rfl rfl rfl,U_ _,trivial⟩ ?_;simp(disch:=omega)only[k6,k8,k9,k10,JN,gP,bP,gf,bf,qA,qC,P_,↓Xc,wG,seval];refine X0 cq (X1 _) ?_;simp(disch:=omega)only[k6,k8,k9,k10,JN,gP,bP,gf,bf,qA,qC,vC,vA,↓Xc,wG,seval];refine X0 cp (X1 _) ?_;simp(disch:=omega)only[k6,k8,k9,k10,JN,gP,bP,gf,bf,qA,qC,vC,vA,↓Xc,wG,seval];refine X0 cs (X1 _) ?_;simp(disch:=omega)only[k6,k8,k9,k10,JN,gP,bP,gf,bf,qA,qC,vC,vA,kL0,TCd,TFY,TFZ,TCe,TFa,TFb,↓Xc,wG,seval];obtain⟨LL,hLL⟩:∃LL,LL=LI 2 ++ [ln [Qj g.n] g.force,ln [0,0,Qj g.n] g.force,ln [Qj g.n,0,Qj g.n] b.TAB,ln [0,0,0,0,1] 16,ln [0,0,0,0,-1] 0]:=⟨_,rfl⟩
  have hLn:LL.length=11:=by rw[hLL,hL2];rfl
  rw[←hLL];obtain⟨tt,htt⟩:∃t,t=g.n.F':=⟨_,rfl⟩
  obtain⟨tp,htp⟩:∃t,t=g.p.sub b.c:=⟨_,rfl⟩
  obtain⟨tq,htq⟩:∃t,t=g.q.sub b.c:=⟨_,rfl⟩
  rw[←htt,←htp,←htq];refine d_ (s':=⟨18,[49,50,51],[.any,.any,bP b,gP g,.ref 2 0 0,JN 0,JN 1,.ref 5 0 0,.ref 6 0 0,.any,.any,.any,.any,.any,.ref 11 0 0,.ref 12 0 0,.ref 13 0 0,.any],[],As b g 11 LL ++ [.row 0 8 (Xf (vC tt)),.row 0 8 (Xf (vC tp)),.row 0 8 (Xf (vC tq))]⟩) ?_ (Xh rfl (by exact⟨.inl rfl,.inl rfl,.inr rfl,.inr rfl,.inr rfl,.inr rfl,.inr rfl,.inr rfl,.inr rfl,.inl rfl,.inl rfl,.inl rfl,.inl rfl,.inl rfl,.inr rfl,.inr rfl,.inr rfl,.inl rfl,trivial⟩) trivial (by rfl));refine d_ ?_ (Xz 11 rfl);refine d_ ?_ (Xz 12 rfl);refine d_ ?_ (Xz 13 rfl);refine d_ ?_ (XK 14 rfl rfl);refine d_ ?_ (XK 15 rfl rfl);refine d_ ?_ (XK 16 rfl rfl);refine d_ (s':=⟨18,[49,50,51],[.any,.any,bP b,gP g,.ref 2 0 0,JN 0,JN 1,.ref 5 0 0,.ref 6 0 0,.any,.any,.any,.any,.any,.ptr 8 (Xf (vC tt)) 0,.ptr 8 (Xf (vC tp)) 0,.ptr 8 (Xf (vC tq)) 0,.any],[],As b g 11 LL ++ [.con 0 8 (Xf (vC tt)),.con 0 8 (Xf (vC tp)),.con 0 8 (Xf (vC tq))]⟩) ?_ (Xh rfl (by simp[ZAt,Xo,JN]) trivial rfl);obtain⟨X3,hX3⟩:∃X:List AO,X=[.con 0 8 (Xf (vC tt)),.con 0 8 (Xf (vC tp)),.con 0 8 (Xf (vC tq))]:=⟨_,rfl⟩
  have xb:∀o∈X3,(∀q,Q0 q o)∧o≠.D_:=fun o ho=>by
   rw[hX3]at ho;simp only[b_,V_,or_false]at ho;rcases ho with rfl |rfl |rfl <;> exact⟨fun q j _=>X4 (Xe (by simp[vC,Xd,X5]) j),by simp⟩
  have xl:∀n Ls,(As b g n Ls ++ X3).length=14:=fun n Ls=>by rw[j_,hX3];rfl
  have kx:∀n Ls,J6 (As b g n Ls ++ X3):=fun n Ls=>KO (Ft b g n Ls) fun o ho=>(xb o ho).2
  have k6x:∀n Ls,(As b g n Ls ++ X3)[6]?=some (.con 0 1 (Xf [.fn 164 [.ref 5 0 0]])):=fun _ _=>rfl
  rw[←hX3];have eq1:∀ (n:Nat) (Ls:List Ln) (l:List Rat),Ls.length=n→n<1000→l.length≤5→0<l.length →
    G' Tryz.prog 167 [.sl l.length (l.length*4) (Xm fun i=>l.getD i 0) true,.ref 6 0 0,JN 0] (As b g n Ls ++ X3) (.tup []) (As b g (n+2) (Ls ++ [ln l 0] ++ [ln (l.map fun r=>-r) 0]) ++ X3)∧K5 (As b g n Ls ++ X3) (As b g (n+2) (Ls ++ [ln l 0] ++ [ln (l.map fun r=>-r) 0]) ++ X3):=fun n Ls l e1 e2 e3 e4=>by
   have:=vV b g n l.length Ls (fun i=>l.getD i 0) e1 e2 e3 e4 X3 xb;have ep:ln (l.map fun r=>-r) 0=⟨JX (fun i=>-l.getD i 0) l.length,0⟩:=by
    rw[hln];simp only[ZCz];congr 1;unfold JX;refine ZAh fun i _=>?_
    by_cases h:i<l.length
    ·simp[h]
    ·simp[h]
   rw[ep,hln];exact this
  refine Xk ?_;simp(disch:=omega)only[k6x,JN,gP,bP,gf,bf,qA,qC,vC,vA,xl,↓Xc,wG,seval];refine X0 (Zd g.n.x) (X1 _) ?_;simp(disch:=omega)only[k6x,JN,gP,bP,gf,bf,qA,qC,vC,vA,xl,↓Xc,wG,seval];refine X0 (Zd tt.x) (X1 _) ?_;simp(disch:=omega)only[k6x,JN,gP,bP,gf,bf,qA,qC,vC,vA,xl,↓Xc,wG,seval];have e1:=eq1 11 LL [g.n.x,tt.x,-g.n.x,-tt.x] hLn (by omega) (K_ rfl) (K_ rfl);refine XC rfl e1.1 e1.2 (Qd (kx _ _)) ⟨JU [g.n.x,tt.x,-g.n.x,-tt.x] 4 16 _ rfl rfl rfl,U_ _,U_ _,trivial⟩ ?_;simp(disch:=omega)only[k6x,JN,gP,bP,gf,bf,qA,qC,vC,vA,xl,↓Xc,wG,seval];refine X0 (Zd g.n.y) (X1 _) ?_;simp(disch:=omega)only[k6x,JN,gP,bP,gf,bf,qA,qC,vC,vA,xl,↓Xc,wG,seval];refine X0 (Zd tt.y) (X1 _) ?_;simp(disch:=omega)only[k6x,JN,gP,bP,gf,bf,qA,qC,vC,vA,xl,↓Xc,wG,seval];refine X0 (Zd b.TAD) (X1 _) ?_;simp(disch:=omega)only[k6x,JN,gP,bP,gf,bf,qA,qC,vC,vA,xl,↓Xc,wG,seval];have e2:=eq1 13 (LL ++ [ln [g.n.x,tt.x,-g.n.x,-tt.x] 0] ++ [ln [-g.n.x,-tt.x,- -g.n.x,- -tt.x] 0]) [g.n.y,tt.y,-g.n.y,-tt.y,-b.TAD] (by simp[hLn]) (by omega) (K_ rfl) (K_ rfl);refine XC rfl e2.1 e2.2 (Qd (kx _ _)) ⟨JU [g.n.y,tt.y,-g.n.y,-tt.y,-b.TAD] 5 20 _ rfl rfl rfl,U_ _,U_ _,trivial⟩ ?_;simp(disch:=omega)only[k6x,JN,gP,bP,gf,bf,qA,qC,vC,vA,xl,↓Xc,wG,seval];have bt:vb tt≤1400:=by rw[htt,AJ];exact h4
  have bp:vb tp≤2801:=by have:=J4 g.p b.c;rw[htp];omega
  have bq:vb tq≤2801:=by have:=J4 g.q b.c;rw[htq];omega
  have w1:=Bh tp g.n;have w2:=Bh tp tt;have w3:=Bh tq g.n;have w4:=Bh tq tt;refine X0 w1 (X1 _) ?_;simp(disch:=omega)only[k6x,JN,gP,bP,gf,bf,qA,qC,vC,vA,xl,↓Xc,wG,seval];refine X0 w2 (X1 _) ?_;simp(disch:=omega)only[k6x,JN,gP,bP,gf,bf,qA,qC,vC,vA,xl,↓Xc,wG,seval];refine X0 w3 (X1 _) ?_;simp(disch:=omega)only[k6x,JN,gP,bP,gf,bf,qA,qC,vC,vA,xl,↓Xc,wG,seval];refine X0 (Zd _) (X1 _) ?_;simp(disch:=omega)only[k6x,JN,gP,bP,gf,bf,qA,qC,vC,vA,xl,↓Xc,wG,seval];refine X0 w4 (X1 _) ?_;simp(disch:=omega)only[k6x,JN,gP,bP,gf,bf,qA,qC,vC,vA,xl,↓Xc,wG,seval];refine X0 (Zd _) (X1 _) ?_;simp(disch:=omega)only[k6x,JN,gP,bP,gf,bf,qA,qC,vC,vA,xl,↓Xc,wG,seval];have e3:=eq1 15 (LL ++ [ln [g.n.x,tt.x,-g.n.x,-tt.x] 0] ++ [ln [-g.n.x,-tt.x,- -g.n.x,- -tt.x] 0] ++ [ln [g.n.y,tt.y,-g.n.y,-tt.y,-b.TAD] 0] ++ [ln [-g.n.y,-tt.y,- -g.n.y,- -tt.y,- -b.TAD] 0]) [Xq tp g.n,Xq tp tt,-Xq tq g.n,-Xq tq tt] (by simp[hLn]) (by omega) (K_ rfl) (K_ rfl);refine XC rfl e3.1 e3.2 (Qd (kx _ _)) ⟨JU [Xq tp g.n,Xq tp tt,-Xq tq g.n,-Xq tq tt] 4 16 _ rfl rfl rfl,U_ _,U_ _,trivial⟩ ?_;have k2x:∀n Ls,(As b g n Ls ++ X3)[2]?=some (.row 0 3 (Xf [I 0,.sl 0 0 (fun _=>.any) true,.sl 0 0 (fun _=>.any) true])):=fun _ _=>rfl
  have k5x:∀n Ls,(As b g n Ls ++ X3)[5]?=some (Zk 7 n TAO):=fun _ _=>rfl
  simp(disch:=omega)only[k6x,k2x,k5x,Zk,JN,gP,bP,gf,bf,qA,qC,vC,vA,xl,↓Xc,wG,seval];refine⟨rfl,?_⟩;have hF:LL ++ [ln [g.n.x,tt.x,-g.n.x,-tt.x] 0] ++ [ln [-g.n.x,-tt.x,- -g.n.x,- -tt.x] 0] ++ [ln [g.n.y,tt.y,-g.n.y,-tt.y,-b.TAD] 0] ++ [ln [-g.n.y,-tt.y,- -g.n.y,- -tt.y,- -b.TAD] 0] ++ [ln [Xq tp g.n,Xq tp tt,-Xq tq g.n,-Xq tq tt] 0] ++ [ln [-Xq tp g.n,-Xq tp tt,- -Xq tq g.n,- -Xq tq tt] 0]=JB b g:=by
   rw[hLL,hL2,hln,htt,htp,htq];rfl
  refine Kc (L:=[I 5,.osl 7 17 5 0 17,XX TAO]) rfl lu rfl rfl rfl ?_;rw[hR];refine Dz ⟨XY (X8 _) rfl,?_,XY (Xr _) rfl,trivial⟩;refine Kw (m:=85) (M:=85) (ver:=17) (f:=Xw KX 5 KN (JB b g)) (.inl ?_) (by omega) (by omega) fun j hj=>?_
  ·rw[←hF];rfl
  ·rw[z_]
   exact(Xe (Z1 _) _).TBI _
 |i+3,h=>omega
def RC:RQ:=RQ.of 0
def ug (l:List RQ):AV:=gE RQ.L 4 RC l
theorem CY (l:List RQ):ug l=.sl l.length (l.length*4) (Xw RQ.L 4 RC l) false:=C_ rfl
theorem Uc (x:RQ):∀a∈x.L,A_ a:=by simp[RQ.L,Xd,X5]
theorem Fe (l:List RQ):A_ (ug l):=Z4 fun a x hx=>Uc a x hx
theorem rqF (l:List RQ)(i:Nat):Xw RQ.L 4 RC l (i*4)=.bool (l.getD i RC).pn∧Xw RQ.L 4 RC l (i*4+1)=X9 (l.getD i RC).pd∧Xw RQ.L 4 RC l (i*4+2)=.bool (l.getD i RC).qn∧Xw RQ.L 4 RC l (i*4+3)=X9 (l.getD i RC).qd:=by
 refine⟨?_,?_,?_,?_⟩
 ·rw[ZO _ _ _ _ _];rfl
 all_goals rw[Ze _ _ _ _ _ _ (by omega)];rfl
theorem dW (s:List RQ)(f:FuncId)(G_:List AV)(p:RQ→Bool)(hl:s.length<1000000)(hc:∀ a∈G_,A_ a)(hp:∀x∈s,Fn Tryz.prog f ([x.A] ++ G_) (.bool (p x))) :
  Fn Tryz.prog 205 [ug s,.fn f G_] (I (Lu p s)):=by
 refine q_ (fn:=Tryz.f205) Tryz.call205 Tryz.func205 rfl mixed 6 [6,7,8] [] [] (by kernel_rfl) (K_ rfl) (Kk (Fe s) (Kg hc)) (Xk ?_);simp(disch:=omega)only[O_,CY,↓Xc,wG,seval];refine Xj (fun j:Nat=>⟨6,[6,7,8],[ug s,.fn f G_,.any,.any,.any,.any],[(6,ug s),(7,I s.length),(8,I j)],[]⟩) (fun j=>j≤s.length∧∀i,i<j→p (s.getD i RC)=false) (fun j=>s.length-j) 0 ⟨by omega,by omega⟩
  (Xh rfl (by simp[Xo,I,CY]) (by simp[Xx,XM,I,CY]) rfl) ?_
 rintro j ⟨hj,hno⟩ next
 by_cases h:j<s.length
 ·obtain⟨l1,l2,l3,l4⟩:=rqF s j
  have c1:=hp _ (Qp RC h);refine Xk ?_;simp(disch:=omega)only[CY,l1,l2,l3,l4,↓Xc,wG,seval];refine X0 c1 (X1 _) ?_;simp(disch:=omega)only[↓Xc,wG,seval];refine Qs (fun ht=>Xn (v:=I j) rfl rfl (X8 _) ?_) (fun hf=>next (j+1) _ ⟨by omega,fun i hi=>?_⟩ (by omega) (Xh rfl ?_ ?_ rfl))
  ·rw[MR RC h ht hno]
  ·by_cases e:i=j
   ·rw[e];exact hf
   ·exact hno i (by omega)
  ·simp[Xo,I,CY]
  ·simp[Xx,XM,I,CY]
 ·obtain rfl:j=s.length:=by omega
  refine Xk ?_;simp(disch:=omega)only[CY,↓Xc,wG,seval];exact Xn (v:=I (-1)) rfl rfl (X8 _) (by rw[Io RC fun i hi=>hno i hi])
theorem R5 (s:List RQ)(f:FuncId)(G_:List AV)(p:RQ→Bool)(hl:s.length<1000000)(hc:∀ a∈G_,A_ a)(hp:∀x∈s,Fn Tryz.prog f ([x.A] ++ G_) (.bool (p x))) :
  Fn Tryz.prog 177 [ug s,.fn f G_] (.bool (s.any p)):=by
 refine q_ (fn:=Tryz.f177) Tryz.call177 Tryz.func177 rfl mixed 4 [] [] [] (by kernel_rfl) (K_ rfl) (Kk (Fe s) (Kg hc)) (Xk ?_);simp(disch:=omega)only[O_,↓Xc,wG,seval];refine X0 (dW s f G_ p hl hc hp) (X1 _) ?_;simp(disch:=omega)only[↓Xc,wG,seval];exact Xn (v:=.bool (decide (0≤Lu p s))) rfl rfl (X5 _) (by rw[MQ])
theorem VQ (x:RQ)(hx:x.sz<1000000000):Fn Tryz.prog 178 [x.A] (.bool (!decide x.ok)):=by
 refine q_ (fn:=Tryz.f178) Tryz.call178 Tryz.func178 rfl mixed 2 [] [] [] (by kernel_rfl) (K_ rfl) (fun a ha=>Y_.1 ha▸CI x) (Xk ?_);simp(disch:=omega)only[O_,RQ.A,RQ.L,↓Xc,wG,seval];refine X0 (Po x hx) (X1 _) ?_;simp(disch:=omega)only[↓Xc,wG,seval];exact Xn rfl rfl (X5 _) rfl
theorem OI (s:List RQ)(hl:s.length<1000000)(hx:∀x∈s,x.sz<1000000000):Fn Tryz.prog 98 [ug s] (.bool (s.all fun x=>decide x.ok)):=by
 refine q_ (fn:=Tryz.f98) Tryz.call98 Tryz.func98 rfl mixed 2 [] [] [] (by kernel_rfl) (K_ rfl) (fun a ha=>Y_.1 ha▸Fe s) (Xk ?_);simp(disch:=omega)only[O_,↓Xc,wG,seval];refine X0 (R5 s 178 [] (fun x=>!decide x.ok) hl (by simp) fun x h=>VQ x (hx x h)) (X1 _) ?_;simp(disch:=omega)only[↓Xc,wG,seval];exact Xn rfl rfl (X5 _) (y_ ZAX (by rw[List.not_any_eq_all_not];simp))
theorem tW (r:Rat):(RQ.of r).ok:=⟨r,rfl⟩
theorem Ex (r:Rat)(h:qb r≤rm:=by unfold rm;omega):(RQ.of r).sz<1000000000:=by
 have:=RQ.TBv r;unfold rm at h;omega
theorem H7 (l:List Rat)(hl:l.length<1000000)(hx:∀r∈l,qb r≤rm):Fn Tryz.prog 98 [XX l] (.bool true):=by
 have:=OI (l.map RQ.of) (by simpa using hl) (fun x h=>by obtain⟨r,hr,rfl⟩:=ZBj.1 h;exact Ex r (hx r hr));have e:ug (l.map RQ.of)=XX l:=by
  rw[CY,Xu,ZCz];congr 1;funext j;unfold Xw Xm;rw[show(l.map RQ.of).getD (j/4) RC=RQ.of (l.getD (j/4) 0)by rw[RC,K',ZBy,K',Option.getD_map]];rfl
 rw[e]at this;have e2:((l.map RQ.of).all fun x=>decide x.ok)=true:=by
  rw[ZA5];intro x h;obtain⟨r,hr,rfl⟩:=ZBj.1 h;exact c_ (tW r)
 rw[e2]at this;exact this
theorem ZN (r:Rat):(0<r.num.sign)=(0<r):=propext (by rw[Int.sign_pos_iff,Rat.lt_iff];simp)
theorem ZM (r:Rat):(0≤r.num.sign)=(0≤r):=propext (by rw[Int.sign_nonneg_iff,Rat.num_nonneg])
def BM (f r:Rat):Bool:=decide (0<f∧0≤r∧r≤4)
theorem FS (l:List Rat)(n m:Nat)(L:List AV)(hL:L=l.flatMap qC)(hn:n=l.length)(hm:m=l.length*4):B' (.sl n m (Xf L) true) (XX l):=by
 subst hn hm hL;rw[Xu];exact QC rfl (N' _) fun j hj=>by rw[Ii l j hj];exact U_ _
theorem MH (f r:Rat)(h1:qb f≤rm:=by unfold rm;omega)(h2:qb r≤rm:=by unfold rm;omega):Fn Tryz.prog 113 [qA f,qA r] (.bool (BM f r)):=by
 have c1:=H7 [f,r] (by simp) (by simp[h1,h2]);have c2:=Qv f;have c3:=Qv r;have c4:=D9 4 1 ⟨by omega,by omega⟩ ⟨by omega,by omega⟩;rw[show P' 4 1=4 by decide +kernel]at c4;have c5:=Ju r 4 h2 (by decide +kernel);refine q_ (fn:=Tryz.f113) Tryz.call113 Tryz.func113 rfl mixed 4 [] [] [] (by kernel_rfl) (K_ rfl) (Kk (Xb f) (Xb r)) (Xk ?_);simp(disch:=omega)only[O_,qA,qC,↓Xc,wG,seval];refine X0 c1 ⟨FS [f,r] _ _ _ rfl rfl rfl,trivial⟩ ?_;simp(disch:=omega)only[↓Xc,wG,seval];refine X0 c2 (X1 _) ?_;simp(disch:=omega)only[ZN,ZM,↓Xc,wG,seval];refine⟨fun h=>?_,fun h=>?_⟩
 ·refine X0 c3 (X1 _) ?_
  simp(disch:=omega)only[h,ZN,ZM,↓Xc,wG,seval];refine⟨fun h2=>?_,fun h2=>?_⟩
  ·refine X2 c4 rfl ?_
   simp(disch:=omega)only[h,h2,qA,qC,↓Xc,wG,seval];refine X0 c5 (X1 _) ?_;simp(disch:=omega)only[h,h2,↓Xc,wG,seval];exact Xn (v:=.bool (decide (Bk r 4≤0))) rfl rfl (X5 _) (y_ ZAX (by unfold BM;exact decide_eq_decide.2 (by rw[Kt];simp[h,h2])))
  ·exact Xn (v:=.bool false) rfl rfl (X5 _) (by simp[BM,h,h2])
 ·exact Xn (v:=.bool false) rfl rfl (X5 _) (by simp[BM,h])
def K9 (b:BB):Bool:=decide (0<b.TAS∧b.TAS≤b.TAD∧0<b.TAB)
def Ka (g:GG):Bool:=BM g.force g.E_ && decide (0<Qj g.n)
def xI (b:BB):Prop:=vb b.c≤rm∧qb b.TAS≤rm∧qb b.TAD≤rm∧qb b.TAB≤rm
def yC (g:GG):Prop:=vb g.p≤rm∧vb g.q≤rm∧vb g.n≤rm∧qb g.force≤rm∧qb g.E_≤rm
theorem Dp (b:BB)(hb:xI b):Fn Tryz.prog 83 [bA b] (.bool (K9 b)):=by
 obtain⟨h1,h2,h3,h4⟩:=hb;have:=Ja b.c;have:=J7 b.c;have c1:=H7 [b.c.x,b.c.y,b.TAS,b.TAD,b.TAB] (by simp) (by simp only[b_,V_,or_false];rintro r (rfl |rfl |rfl |rfl |rfl) <;> omega);have c2:=Qv b.TAS;have c3:=Ju b.TAS b.TAD h2 h3;have c4:=Qv b.TAB;refine q_ (fn:=Tryz.f83) Tryz.call83 Tryz.func83 rfl mixed 2 [] [] [] (by kernel_rfl) (K_ rfl) (fun a ha=>Y_.1 ha▸QU b) (Xk ?_);have bf:=bF b;simp(disch:=omega)only[O_,bA,Jc,Xl,↓Xc,wG,seval];refine X0 c1 ⟨FS [b.c.x,b.c.y,b.TAS,b.TAD,b.TAB] _ _ _ rfl rfl rfl,trivial⟩ ?_;simp(disch:=omega)only[↓Xc,wG,seval];refine X0 c2 (X1 _) ?_;simp(disch:=omega)only[ZN,↓Xc,wG,seval];refine⟨fun h=>?_,fun h=>?_⟩
 ·refine X0 c3 (X1 _) ?_
  simp(disch:=omega)only[h,Kt,↓Xc,wG,seval];refine⟨fun h2=>?_,fun h2=>?_⟩
  ·refine X0 c4 (X1 _) ?_
   simp(disch:=omega)only[h,h2,ZN,↓Xc,wG,seval];exact Xn (v:=.bool (decide (0<b.TAB))) rfl rfl (X5 _) (by simp[K9,h,h2])
  ·exact Xn (v:=.bool false) rfl rfl (X5 _) (by simp[K9,h,h2])
 ·exact Xn (v:=.bool false) rfl rfl (X5 _) (by simp[K9,h])
theorem H6 (g:GG)(hg:yC g):Fn Tryz.prog 63 [gA g] (.bool (Ka g)):=by
 obtain⟨h1,h2,h3,h4,h5⟩:=hg;have:=Ja g.p;have:=J7 g.p;have:=Ja g.q;have:=J7 g.q;have:=Ja g.n;have:=J7 g.n;have c1:=H7 [g.p.x,g.p.y,g.q.x,g.q.y,g.n.x,g.n.y] (by simp) (by simp only[b_,V_,or_false];rintro r (rfl |rfl |rfl |rfl |rfl |rfl) <;> omega);have c2:=MH g.force g.E_ h4 h5;have c3:=MI g.n h3;have c4:=Qv (Qj g.n);refine q_ (fn:=Tryz.f63) Tryz.call63 Tryz.func63 rfl mixed 2 [] [] [] (by kernel_rfl) (K_ rfl) (fun a ha=>Y_.1 ha▸QA g) (Xk ?_);simp(disch:=omega)only[O_,gA,Jd,Xl,↓Xc,wG,seval];refine X0 c1 ⟨FS [g.p.x,g.p.y,g.q.x,g.q.y,g.n.x,g.n.y] _ _ _ rfl rfl rfl,trivial⟩ ?_;simp(disch:=omega)only[↓Xc,wG,seval];refine X0 c2 (X1 _) ?_;simp(disch:=omega)only[↓Xc,wG,seval];refine⟨fun h=>?_,fun h=>?_⟩
 ·refine X0 c3 (X1 _) ?_
  simp(disch:=omega)only[h,qA,qC,↓Xc,wG,seval];refine X0 c4 (X1 _) ?_;simp(disch:=omega)only[h,ZN,↓Xc,wG,seval];exact Xn (v:=.bool (decide (0<Qj g.n))) rfl rfl (X5 _) (by simp[Ka,h])
 ·exact Xn (v:=.bool false) rfl rfl (X5 _) (by simp[Ka,h])
def bS (b:BB):Prop:=vb b.c≤1400∧qb b.TAS≤40∧qb b.TAD≤40∧qb b.TAB≤40
def gS (g:GG):Prop:=vb g.p≤1400∧vb g.q≤1400∧vb g.n≤40∧qb g.force≤40∧qb g.E_≤40
theorem bS.ok {b:BB}(h:bS b):xI b:=by obtain⟨h1,h2,h3,h4⟩:=h;unfold xI rm;omega
theorem gS.ok {g:GG}(h:gS g):yC g:=by obtain⟨h1,h2,h3,h4,h5⟩:=h;unfold yC rm;omega
theorem aq (n:V2):qb (Qj n)≤2*vb n+1:=by
 have:=Ja n;have:=J7 n;have h:=KE (BI n.x) (BI n.y);rw[EX,EX]at h;unfold Qj;omega
theorem yX:qb (-1)≤5700:=by rw[BF];decide +kernel
theorem Hs {b:BB}{g:GG}(hb:bS b)(hg:gS g):∀x∈JB b g,(∀r∈x.a,qb r≤5700)∧qb x.b≤5700:=by
 obtain⟨b1,b2,b3,b4⟩:=hb;obtain⟨g1,g2,g3,g4,g5⟩:=hg;have t1:=J4 g.p b.c;have t2:=J4 g.q b.c;have t3:=AJ g.n;have c1:=K1 (g.p.sub b.c) g.n;have c2:=K1 (g.p.sub b.c) g.n.F';have c3:=K1 (g.q.sub b.c) g.n;have c4:=K1 (g.q.sub b.c) g.n.F';have l1:=aq g.n;have e0:qb 0≤5700:=by decide +kernel
 have e1:qb 1≤5700:=by decide +kernel
 have e16:qb 16≤5700:=by decide +kernel
 have en:=yX;have nx:=Ja g.n;have ny:=J7 g.n;have d1:qb g.n.x≤5700:=by omega
 have d2:qb g.n.y≤5700:=by omega
 have d3:qb g.E_≤5700:=by omega
 have d4:qb g.force≤5700:=by omega
 have d5:qb b.TAD≤5700:=by omega
 have d6:qb b.TAB≤5700:=by omega
 have d7:qb (Qj g.n)≤5700:=by omega
 have d8:qb (Xq (g.p.sub b.c) g.n)≤5700:=by omega
 have d9:qb (Xq (g.p.sub b.c) g.n.F')≤5700:=by omega
 have d10:qb (Xq (g.q.sub b.c) g.n)≤5700:=by omega
 have d11:qb (Xq (g.q.sub b.c) g.n.F')≤5700:=by omega
 simp only[JB,TE,Ev,GN,Cb,ZCu,ZC0,ZBW,ZB6,e_,h_,ZAQ,ZCd,b_,V_,or_false,forall_eq_or_imp,forall_eq,BF];simp[e0,e1,e16,en,d1,d2,d3,d4,d5,d6,d7,d8,d9,d10,d11]
theorem ai {b:BB}{g:GG}(hf:0≤g.force)(hs:0≤b.TAB):∀x∈JB b g,0≤x.b:=by
 simp only[JB,TE,Ev,GN,Cb,ZCu,ZC0,ZBW,ZB6,e_,h_,ZAQ,ZCd,b_,V_,or_false,forall_eq_or_imp,forall_eq];have h16:(0:Rat)≤16:=by decide +kernel
 have h0:(0:Rat)≤0:=ZCt;simp[hf,hs,h16,h0]
theorem Ru (b:BB)(g:GG):∀x∈JB b g,x.a.length=5:=by
 simp only[JB,TE,Ev,GN,Cb,ZCu,ZC0,ZBW,ZB6,e_,h_,ZAQ,ZCd,b_,V_,or_false,forall_eq_or_imp,forall_eq];simp
theorem Fs {b:BB}:K9 b=true↔0<b.TAS∧b.TAS≤b.TAD∧0<b.TAB:=by unfold K9;simp
theorem Cn {g:GG}:Ka g=true↔(0<g.force∧0≤g.E_∧g.E_≤4)∧0<Qj g.n:=by unfold Ka BM;simp
theorem xj {b:BB}{g:GG}(hb:bS b)(hg:gS g)(h1:K9 b=true)(h2:Ka g=true) :
  ∃x y val,Fn Tryz.prog 51 [P7 5 (JB b g) TAO] (.tup [PP 0 x y val,I 0])∧x.length=5∧y.length=17∧(∀i,qb (x.getD i 0)≤1356773)∧(∀i,qb (y.getD i 0)≤1373878)∧TAx 5 17 (lA (JB b g)) (lB (JB b g)) (lG TAO) (fun k=>x.getD k 0) (fun i=>y.getD i 0) val:=by
 obtain⟨q1,q2,q3⟩:=Fs.1 h1;obtain⟨⟨q4,q5,q6⟩,q7⟩:=Cn.1 h2;have k1:=Hs hb hg;have k2:=ai (b:=b) (g:=g) (ZBI q4) (ZBI q3);have e0:qb 0≤5700:=by decide +kernel
 have e1:qb 1≤5700:=by decide +kernel
 refine nd 5 (JB b g) TAO 5700 678386 (by omega) (by rw[Bi];omega) rfl (Ru b g) (fun i hi=>k2 _ (Qp KN hi)) 9 (by rw[Bi];omega) (fun k hk=>?_) (fun i k=>?_) (fun i=>?_) (fun k=>?_) e0 e1 (by rw[Bi];omega) (by omega) (by rw[Bi];omega) (by omega) (by omega) 4 (fun k hk=>by match k,hk with |0,_=>rfl |1,_=>rfl |2,_=>rfl |3,_=>rfl |4,h=>exact absurd rfl h |k+5,_=>rfl)
 ·match k,hk with
  |0,_=>rfl
  |1,_=>rfl
  |2,_=>rfl
  |3,_=>rfl
  |4,_=>rfl
  |k+5,h=>omega
 ·unfold lA
  by_cases hi:i<(JB b g).length
  ·by_cases hk:k<((JB b g).getD i KN).a.length
   ·exact(k1 _ (Qp KN hi)).1 _ (Qp 0 hk)
   ·rw[K' (i:=k),k_ (by omega)];exact e0
  ·rw[K' (i:=i),k_ (by omega)];exact e0
 ·unfold lB
  by_cases hi:i<(JB b g).length
  ·exact(k1 _ (Qp KN hi)).2
  ·rw[K' (i:=i),k_ (by omega)];exact e0
 ·unfold lG TAO
  match k with
  |0=>exact e0
  |1=>exact e0
  |2=>exact e0
  |3=>exact e0
  |4=>exact e1
  |k+5=>exact e0
def Ai (p:Rat×Rat):List AV:=qC p.1 ++ qC p.2
def C6 (l:List (Rat×Rat)):AV:=gE Ai 8 (0,0) l
theorem Jr (l:List (Rat×Rat)):C6 l=.sl l.length (l.length*8) (Xw Ai 8 (0,0) l) false:=C_ rfl
theorem Lh (x:Rat×Rat):∀a∈Ai x,A_ a:=by simp[Ai,qC,Xd,X5]
theorem Jh (l:List (Rat×Rat)):A_ (C6 l):=Z4 fun a x hx=>Lh a x hx
theorem B0 {P:Program}{fn:Func}{str hcs:List Nat}{a b c x y z:AV}{s:AS}{r1 r2 r3:ResultVar}(hr:fn.results=#[r1,r2,r3])(h1:A8 P s r1=some x)(h2:A8 P s r2=some y)(h3:A8 P s r3=some z)(g1:ZA s.h x a)(g2:ZA s.h y b)(g3:ZA s.h z c) :
  TAC (JK P fn str hcs (.tup [a,b,c])) s :=
 ⟨.tup [x,y,z],by simp[Au,Rd,Fz,hr,JL,BO,h1,h2,h3],DA ⟨g1,g2,g3,trivial⟩⟩
theorem Cl {α:Type}(e:α→List AV)(s:Nat)(d:α)(he:∀x,(e x).length=s) (l:List α):∀j,j<l.length*s→Xf (l.flatMap e) j=Xw e s d l j:=by
 induction l with
 |nil=>intro j hj;simp at hj
 |cons x l ih =>
  intro j hj;show(e x ++ l.flatMap e).getD j .any=_;unfold Xw;have hs:0<s:=Nat.pos_of_ne_zero fun h=>by rw[h]at hj;omega
  by_cases h:j<s
  ·rw[K',T_ (by rw[he];exact h),←K',Nat.div_eq_of_lt h,ZAJ h];rfl
  ·rw[K',g_ (by rw[he];omega),he,←K']
   have hj2:j-s<l.length*s:=by rw[ZAA,Nat.succ_mul]at hj;omega
   have:=ih (j-s) hj2;rw[show(l.flatMap e).getD (j-s) .any=Xf (l.flatMap e) (j-s)from rfl,this];unfold Xw;have e1:j/s=(j-s)/s+1:=by rw[Nat.div_eq_sub_div hs (by omega)]
   have e2:j%s=(j-s)%s:=by rw[Nat.mod_eq_sub_mod (by omega)]
   rw[e1,e2];rfl
theorem JH {α:Type}(e:α→List AV)(s:Nat)(d:α)(he:∀x,(e x).length=s) (l:List α) (n m:Nat) (L:List AV) (t:Bool) (hL:L=l.flatMap e) (hn:n=l.length) (hm:m=l.length*s):B' (.sl n m (Xf L) t) (gE e s d l):=by
 subst hn hm hL;exact QC rfl (N' _) fun j hj=>by rw[Cl e s d he l j hj];exact U_ _
theorem wZ (f:Nat→Rat):Xm f 0=ZAX (sg (f 0))∧Xm f 1=X9 (Xa (f 0).num.natAbs)∧Xm f 2=ZAX false∧Xm f 3=X9 (Xa (qd (f 0)))∧Xm f 4=ZAX (sg (f 1))∧Xm f 5=X9 (Xa (f 1).num.natAbs)∧Xm f 6=ZAX false∧Xm f 7=X9 (Xa (qd (f 1)))∧Xm f 8=ZAX (sg (f 2))∧Xm f 9=X9 (Xa (f 2).num.natAbs)∧Xm f 10=ZAX false∧Xm f 11=X9 (Xa (qd (f 2)))∧Xm f 12=ZAX (sg (f 3))∧Xm f 13=X9 (Xa (f 3).num.natAbs)∧Xm f 14=ZAX false∧Xm f 15=X9 (Xa (qd (f 3))):=by
 refine⟨rfl,rfl,rfl,rfl,rfl,rfl,rfl,rfl,rfl,rfl,rfl,rfl,rfl,rfl,rfl,rfl⟩
theorem VM (b:BB)(g:GG)(hb:bS b)(hg:gS g)(h1:K9 b=true)(h2:Ka g=true) :
  ∃x0 x1 x2 x3 m,Fn Tryz.prog 22 [bA b,gA g] (.tup [qA m,C6 [(x0,x1),(x2,x3)],I 0])∧lh b g m∧okP b g x0 x1 x2 x3 m∧qb x0≤1356773∧qb x1≤1356773∧qb x2≤1356773∧qb x3≤1356773∧qb m≤1356773:=by
 obtain⟨x,y,m,c4,hx,hy,hbx,hby,hO⟩:=xj hb hg h1 h2;obtain⟨i1,i2,i3⟩:=rn hO;refine⟨x.getD 0 0,x.getD 1 0,x.getD 2 0,x.getD 3 0,m,?_,i1,i2,hbx 0,hbx 1,hbx 2,hbx 3,i3▸hbx 4⟩;have c1:=Dp b hb.ok;have c2:=H6 g hg.ok;have c3:=N8 b g hb.1 hg.1 hg.2.1 (by have:=hg.2.2.1;omega);rw[h1]at c1;rw[h2]at c2;obtain⟨R1,hR1⟩:∃R,R=qA m:=⟨_,rfl⟩
 have sR1:A_ R1:=hR1▸Xb _;obtain⟨R2,hR2⟩:∃R,R=C6 [(x.getD 0 0,x.getD 1 0),(x.getD 2 0,x.getD 3 0)]:=⟨_,rfl⟩
 have sR2:A_ R2:=hR2▸Jh _;rw[←hR1,←hR2];refine q_ (fn:=Tryz.f22) Tryz.call22 Tryz.func22 rfl mixed 9 [] [6,7020] [] (by kernel_rfl) (K_ rfl) (Kk (QU b) (QA g)) (XI 60 ?_);simp(disch:=omega)only[O_,bA,gA,Jc,Jd,Xl,↓Xc,wG,seval];refine X0 c1 (X1 _) ?_;simp(disch:=omega)only[↓Xc,wG,seval];refine X0 c2 (X1 _) ?_;simp(disch:=omega)only[↓Xc,wG,seval];refine X0 c3 (X1 _) ?_;simp(disch:=omega)only[P7,↓Xc,wG,seval];refine X0 c4 (X1 _) ?_;simp(disch:=omega)only[PP,cF,qA,qC,↓Xc,wG,seval];refine⟨rfl,?_⟩;refine d_ ?_ (Xz 3 rfl);refine d_ ?_ (XK 7 rfl rfl);refine Xk ?_;have rx:=wZ fun i=>x.getD i 0
 simp(disch:=omega)only[ZAt,ZDJ,PP,cF,qA,qC,Xu,hx,hy,rx,↓Xc,wG,seval];exact B0 (r1:=.cell 4 28) (r2:=.tmp 5) (r3:=.tmp 6) rfl (Xt XT rfl rfl rfl) rfl rfl (XY sR1 (by rw[hR1];rfl)) (Xp sR2 (by rw[hR2];exact JH Ai 8 (0,0) (fun _=>rfl) [(x.getD 0 0,x.getD 1 0),(x.getD 2 0,x.getD 3 0)] _ _ _ _ rfl rfl rfl)) (XY (X8 0) rfl)
theorem DG (f:Nat→AV)(t:Bool):B' (.sl 0 0 f t) (C6 []):=QC rfl (N' _) fun j hj=>absurd hj (ZAL _)
theorem T3 (b:BB)(g:GG)(hb:xI b)(hg:yC g)(h:(K9 b && Ka g)=false) :
  Fn Tryz.prog 22 [bA b,gA g] (.tup [qA 0,C6 [],I 1]):=by
 have c1:=Dp b hb;have c2:=H6 g hg;refine q_ (fn:=Tryz.f22) Tryz.call22 Tryz.func22 rfl mixed 9 [] [6,7020] [] (by kernel_rfl) (K_ rfl) (Kk (QU b) (QA g)) (Xk ?_);simp(disch:=omega)only[O_,bA,gA,Jc,Jd,Xl,↓Xc,wG,seval];refine X0 c1 (X1 _) ?_;simp(disch:=omega)only[↓Xc,wG,seval];refine⟨fun h1=>?_,fun h1=>?_⟩
 ·exact B0 (r1:=.cell 4 28) (r2:=.tmp 5) (r3:=.tmp 6) rfl (Xt XT rfl rfl rfl) rfl rfl (Xp (Xb 0) (JR (QB _))) (Xp (Jh []) (DG _ _)) (XY (X8 1) rfl)
 ·have h1:K9 b=true:=by cases e:K9 b <;> simp_all
  rw[h1,ZBt]at h;rw[h]at c2;refine X0 c2 (X1 _) ?_;simp(disch:=omega)only[↓Xc,wG,seval];exact B0 (r1:=.cell 4 28) (r2:=.tmp 5) (r3:=.tmp 6) rfl (Xt XT rfl rfl rfl) rfl rfl (Xp (Xb 0) (JR (QB _))) (Xp (Jh []) (DG _ _)) (XY (X8 1) rfl)
def Rb (x a:List Rat):Rat:=XO (fun k=>a.getD k 0*x.getD k 0) 5
def Yo (a:AV):AV:=.ptr 1 (Xf [a]) 0
theorem Ga {a:AV}(h:A_ a):A_ (Yo a):=XR fun j _=>Xe (l:=[a]) (fun x hx=>Y_.1 hx▸h) j
theorem rB {x a:List Rat}(h1:∀ r∈x,qb r≤1500000)(h2:∀r∈a,qb r≤5700):qb (Rb x a)≤7600000:=by
 have e0:qb 0≤5700:=by decide +kernel
 have g:∀ {l:List Rat} {c:Nat},5700≤c→(∀r∈l,qb r≤c)→∀k,qb (l.getD k 0)≤c:=fun {l} c hc h k=>by
  by_cases hk:k<l.length
  ·exact h _ (Qp 0 hk)
  ·rw[K',k_ (by omega)];exact m_ e0 hc
 have:=Hu (f:=fun k=>a.getD k 0*x.getD k 0) (E:=1505700) (m:=5) fun i hi=>by
  have:=Qa (a.getD i 0) (x.getD i 0);have:=g (by omega) h1 i;have:=g (N' _) h2 i;omega
 unfold Rb;omega
theorem VK (x:List Rat)(l:Ln)(hx:x.length=5)(hl:l.a.length=5)(h1:∀ r∈x,qb r≤1500000)(h2:∀ r∈l.a,qb r≤5700)(h3:qb l.b≤5700) :
  Fn Tryz.prog 99 [tL l,Yo (XX x)] (.bool (decide (l.b<Rb x l.a))):=by
 have c1:=jG l.a x 1505700 (by omega) (by omega) (fun i hi=>by have:=h2 _ (Qp 0 hi);have:=h1 _ (Qp 0 (show i<x.length by omega));omega) (by omega);rw[hl,show XO (fun i=>l.a.getD i 0*x.getD i 0) 5=Rb x l.a from rfl]at c1;have q:=rB h1 h2;have c2:=Ju (Rb x l.a) l.b;refine q_ (fn:=Tryz.f99) Tryz.call99 Tryz.func99 rfl mixed 4 [] [] [] (by kernel_rfl) (K_ rfl) (Kk (Le l) (Ga (Xr x))) (Xk ?_);simp(disch:=omega)only[O_,tL,KX,Yo,qC,Xu,↓Xc,wG,seval];refine X0 c1 (X1 _) ?_;simp(disch:=omega)only[↓Xc,wG,seval];refine X0 c2 (X1 _) ?_;simp(disch:=omega)only[↓Xc,wG,seval];exact Xn rfl rfl (X5 _) (y_ ZAX (decide_eq_decide.2 (Zy _ _)))
def N9 (l:List (Rat×Rat)) (k:Rat):List Rat:=[(l.getD 0 (0,0)).1,(l.getD 0 (0,0)).2,(l.getD 1 (0,0)).1,(l.getD 1 (0,0)).2,k]
def H8 (b:BB)(g:GG)(k:Rat)(l:List (Rat×Rat)):Prop:=okP b g (l.getD 0 (0,0)).1 (l.getD 0 (0,0)).2 (l.getD 1 (0,0)).1 (l.getD 1 (0,0)).2 k
theorem l8 (b:BB)(g:GG)(k:Rat)(l:List (Rat×Rat)):((JB b g).any fun x=>decide (x.b<Rb (N9 l k) x.a))=false↔H8 b g k l:=by
 have h:=H4 b g fun i=>(N9 l k).getD i 0
 rw[List.any_eq_false];have e:(∀x∈JB b g,¬decide (x.b<Rb (N9 l k) x.a)=true)↔(∀i,i<17→XO (fun k'=>lA (JB b g) i k'*(N9 l k).getD k' 0) 5≤lB (JB b g) i):=by
  constructor
  ·intro h1 i hi
   have:=h1 _ (Qp KN (show i<(JB b g).length by rw[Bi];exact hi));rw[decide_eq_true_eq,ZAf]at this;exact this
  ·intro h1 x hx
   obtain⟨i,hi,rfl⟩:=ZAT hx;have:=h1 i (by rw[Bi]at hi;exact hi);rw[decide_eq_true_eq,ZAf];unfold lA lB at this;rw[K',V' hi]at this;exact this
 rw[e,h];rfl
def Kr (b:BB)(g:GG)(k:Rat)(l:List (Rat×Rat)):Int:=if(K9 b && Ka g)=true then(if l.length=2∧H8 b g k l then 0 else 22)else 1
theorem Ij (b:BB)(g:GG)(k:Rat)(l:List (Rat×Rat)) (hb:bS b) (hg:gS g) (hk:qb k≤1500000) (hl:l.length<1000000) (hp:∀x∈l,qb x.1≤1500000∧qb x.2≤1500000):Fn Tryz.prog 29 [bA b,gA g,qA k,C6 l] (I (Kr b g k l)):=by
 have c1:=Dp b hb.ok;have c2:=H6 g hg.ok;have c3:=N8 b g hb.1 hg.1 hg.2.1 (by have:=hg.2.2.1;omega);have hS:∀a∈[bA b,gA g,qA k,C6 l],A_ a:=by simp[QU,QA,Xb,Jh]
 by_cases hl2:l.length=2
 ·obtain⟨p,q,rfl⟩:∃p q,l=[p,q]:=by
   match l,hl2 with
   | [p,q],_=>exact⟨p,q,rfl⟩
  have hP:C6 [p,q]=.sl 2 16 (Xw Ai 8 (0,0) [p,q]) false:=rfl;have hF:Xw Ai 8 (0,0) [p,q] 0=ZAX (sg p.1)∧Xw Ai 8 (0,0) [p,q] 1=X9 (Xa (p.1).num.natAbs)∧Xw Ai 8 (0,0) [p,q] 2=ZAX false∧Xw Ai 8 (0,0) [p,q] 3=X9 (Xa (qd p.1))∧Xw Ai 8 (0,0) [p,q] 4=ZAX (sg p.2)∧Xw Ai 8 (0,0) [p,q] 5=X9 (Xa (p.2).num.natAbs)∧Xw Ai 8 (0,0) [p,q] 6=ZAX false∧Xw Ai 8 (0,0) [p,q] 7=X9 (Xa (qd p.2))∧Xw Ai 8 (0,0) [p,q] 8=ZAX (sg q.1)∧Xw Ai 8 (0,0) [p,q] 9=X9 (Xa (q.1).num.natAbs)∧Xw Ai 8 (0,0) [p,q] 10=ZAX false∧Xw Ai 8 (0,0) [p,q] 11=X9 (Xa (qd q.1))∧Xw Ai 8 (0,0) [p,q] 12=ZAX (sg q.2)∧Xw Ai 8 (0,0) [p,q] 13=X9 (Xa (q.2).num.natAbs)∧Xw Ai 8 (0,0) [p,q] 14=ZAX false∧Xw Ai 8 (0,0) [p,q] 15=X9 (Xa (qd q.2)):=⟨rfl,rfl,rfl,rfl,rfl,rfl,rfl,rfl,rfl,rfl,rfl,rfl,rfl,rfl,rfl,rfl⟩
  obtain⟨p1,p2⟩:=hp p (by simp);obtain⟨p3,p4⟩:=hp q (by simp);have c4:=H7 [k,p.1,p.2,q.1,q.2] (by simp) (by unfold rm;simp only[b_,V_,or_false];rintro r (rfl |rfl |rfl |rfl |rfl) <;> omega);refine q_ (fn:=Tryz.f29) Tryz.call29 Tryz.func29 rfl mixed 11 [] [] [] (by kernel_rfl) (K_ rfl) hS (XI 132 ?_);simp(disch:=omega)only[O_,bA,gA,Jc,Jd,Xl,qA,qC,↓Xc,wG,seval];refine X0 c1 (X1 _) ?_;simp(disch:=omega)only[↓Xc,wG,seval];refine⟨fun h1=>?_,fun h1=>?_⟩
  ·exact Xn (v:=I 1) rfl rfl (X8 _) (by simp at h1;simp[Kr,h1])
  have h1:K9 b=true:=by cases e:K9 b <;> simp_all
  refine X0 c2 (X1 _) ?_;simp(disch:=omega)only[hP,hF,↓Xc,wG,seval];refine⟨fun h2=>?_,fun h2=>?_⟩
  ·exact Xn (v:=I 1) rfl rfl (X8 _) (by simp at h2;simp[Kr,h1,h2])
  have h2:Ka g=true:=by cases e:Ka g <;> simp_all
  refine X0 c4 ⟨FS [k,p.1,p.2,q.1,q.2] _ _ _ rfl rfl rfl,trivial⟩ ?_;simp(disch:=omega)only[hP,hF,↓Xc,wG,seval];obtain⟨X,hX⟩:∃X,X=N9 [p,q] k:=⟨_,rfl⟩
  have hX5:X.length=5:=by rw[hX];rfl
  have hXq:∀r∈X,qb r≤1500000:=by
   rw[hX];simp only[N9,b_,V_,or_false];rintro r (rfl |rfl |rfl |rfl |rfl)
   ·exact p1
   ·exact p2
   ·exact p3
   ·exact p4
   ·exact hk
  have c5:=GP (JB b g) 99 [Yo (XX X)] (fun x=>decide (x.b<Rb X x.a)) (by rw[Bi];omega) (fun a ha=>Y_.1 ha▸Ga (Xr X)) fun x hx=>VK X x hX5 (Ru b g x hx) hXq (Hs hb hg x hx).1 (Hs hb hg x hx).2
  refine d_ ?_ (Qe 3 (Xf [XX X]) rfl (fun j hj=>by
   match j,hj with
   |0,_=>exact Xy (by rw[hX];have:=JH qC 4 0 (fun _=>rfl) (N9 [p,q] k) 5 20 (qC p.1 ++ qC p.2 ++ qC q.1 ++ qC q.2 ++ qC k) false rfl rfl rfl;exact this)
   |j+1,h=>omega))
  refine d_ ?_ (Xz 3 rfl);refine d_ ?_ (XK 9 rfl rfl);refine Xk ?_;simp(disch:=omega)only[ZAt,ZDJ,↓Xc,wG,seval];refine X0 c3 (X1 _) ?_;simp(disch:=omega)only[P7,↓Xc,wG,seval];refine X0 c5 (X1 _) ?_;simp(disch:=omega)only[↓Xc,wG,seval];have hh:=l8 b g k [p,q];rw[←hX]at hh;refine⟨fun h3=>?_,fun h3=>?_⟩
  ·have n:¬H8 b g k [p,q]:=fun hB=>by have e:=hh.2 hB;rw[e]at h3;exact absurd h3 (by simp)
   exact Xn (v:=I 22) rfl rfl (X8 _) (by simp[Kr,h1,h2,n])
  ·have y:H8 b g k [p,q]:=hh.1 (by revert h3;cases(JB b g).any (fun x=>decide (x.b<Rb X x.a)) <;> simp)
   exact Xn (v:=I 0) rfl rfl (X8 _) (by simp[Kr,h1,h2,y])
 ·refine q_ (fn:=Tryz.f29) Tryz.call29 Tryz.func29 rfl mixed 11 [] [] [] (by kernel_rfl) (K_ rfl) hS (Xk ?_)
  have hl3:¬ (l.length:Int)=2:=by omega
  simp(disch:=omega)only[O_,bA,gA,Jc,Jd,Xl,qA,qC,↓Xc,wG,seval];refine X0 c1 (X1 _) ?_;simp(disch:=omega)only[↓Xc,wG,seval];refine⟨fun h1=>?_,fun h1=>?_⟩
  ·exact Xn (v:=I 1) rfl rfl (X8 _) (by simp at h1;simp[Kr,h1])
  have h1:K9 b=true:=by cases e:K9 b <;> simp_all
  refine X0 c2 (X1 _) ?_;simp(disch:=omega)only[Jr,hl3,↓Xc,wG,seval];refine⟨fun h2=>?_,fun h2=>?_⟩
  ·exact Xn (v:=I 1) rfl rfl (X8 _) (by simp at h2;simp[Kr,h1,h2])
  have h2:Ka g=true:=by cases e:Ka g <;> simp_all
  exact Xn (v:=I 22) rfl rfl (X8 _) (by simp[Kr,h1,h2,hl2])
theorem TZ (f r:Rat)(h1:qb f≤rm:=by unfold rm;omega)(h2:qb r≤rm:=by unfold rm;omega):Fn Tryz.prog 88 [qA f,qA r] (.bool (BM f r)):=by
 have v1:=KH f h1;have v2:=KH r h2;have c2:=Q8 f h1;have c3:=Q8 r h2;have c4:=XL 4 1 ⟨by omega,by omega⟩ ⟨by omega,by omega⟩;rw[show P' 4 1=4 by decide +kernel]at c4;have c5:=J2 r 4 h2 (by decide +kernel);refine q_ (fn:=Tryz.f88) Tryz.call88 Tryz.func88 rfl mixed 4 [] [] [] (by kernel_rfl) (K_ rfl) (Kk (Xb f) (Xb r)) (Xk ?_);simp(disch:=omega)only[O_,qA,qC,↓Xc,wG,seval];refine X0 v1 (X1 _) ?_;simp(disch:=omega)only[↓Xc,wG,seval];refine X0 v2 (X1 _) ?_;simp(disch:=omega)only[↓Xc,wG,seval];refine X0 c2 (X1 _) ?_;simp(disch:=omega)only[ZN,ZM,↓Xc,wG,seval];refine⟨fun h=>?_,fun h=>?_⟩
 ·refine X0 c3 (X1 _) ?_
  simp(disch:=omega)only[h,ZN,ZM,↓Xc,wG,seval];refine⟨fun h2=>?_,fun h2=>?_⟩
  ·refine X2 c4 rfl ?_
   simp(disch:=omega)only[h,h2,qA,qC,↓Xc,wG,seval];refine X0 c5 (X1 _) ?_;simp(disch:=omega)only[h,h2,↓Xc,wG,seval];exact Xn (v:=.bool (decide (Bk r 4≤0))) rfl rfl (X5 _) (y_ ZAX (by unfold BM;exact decide_eq_decide.2 (by rw[Kt];simp[h,h2])))
  ·exact Xn (v:=.bool false) rfl rfl (X5 _) (by simp[BM,h,h2])
 ·exact Xn (v:=.bool false) rfl rfl (X5 _) (by simp[BM,h])
theorem aV:vb v0≤1400:=by decide +kernel
theorem xh {a:V2}(h:vb a≤1400):J3 [a] 1400:=fun i=>match i with
 |0=>h
 |_+1=>aV
theorem xi {a b c:V2}{k:Nat}(h:vb a≤k)(h2:vb b≤k)(h3:vb c≤k)(hk:1400≤k):J3 [a,b,c] k:=fun i=>match i with
 |0=>h
 |1=>h2
 |2=>h3
 |_+3=>m_ aV hk
theorem D5 (t:Bool):B' (.agg [.bool false,.sl 0 0 (fun _=>.any) t,.bool false,.sl 0 0 (fun _=>.any) t,.bool false,.sl 0 0 (fun _=>.any) t,.bool false,.sl 0 0 (fun _=>.any) t]) (vA v0):=by
 have w:=QB t;exact JR ⟨w.1,w.2.1,w.2.2.1,w.2.2.2.1,w.1,w.2.1,w.2.2.1,w.2.2.2.1,trivial⟩
theorem EZ (b:BB)(hb:bS b):Fn Tryz.prog 23 [bA b] (.bool (K9 b)):=by
 obtain⟨h1,h2,h3,h4⟩:=hb;have n2:qb b.TAS≤rm:=by unfold rm;omega
 have n3:qb b.TAD≤rm:=by unfold rm;omega
 have n4:qb b.TAB≤rm:=by unfold rm;omega
 have c1:=E3 [b.c] 1400 (xh h1) (by omega) (by simp);have v1:=KH b.TAS n2;have v2:=KH b.TAD n3;have v3:=KH b.TAB n4;have c2:=Q8 b.TAS n2;have c3:=J2 b.TAS b.TAD n2 n3;have c4:=Q8 b.TAB n4;refine q_ (fn:=Tryz.f23) Tryz.call23 Tryz.func23 rfl mixed 3 [] [] [] (by kernel_rfl) (K_ rfl) (fun a ha=>Y_.1 ha▸QU b) (Xk ?_);simp(disch:=omega)only[O_,bA,Jc,Xl,↓Xc,wG,seval];refine X0 c1 ⟨JH vC 8 v0 (fun _=>rfl) [b.c] _ _ _ _ rfl rfl rfl,trivial⟩ ?_;simp(disch:=omega)only[↓Xc,wG,seval];refine X0 v1 (X1 _) ?_;simp(disch:=omega)only[↓Xc,wG,seval];refine X0 v2 (X1 _) ?_;simp(disch:=omega)only[↓Xc,wG,seval];refine X0 v3 (X1 _) ?_;simp(disch:=omega)only[↓Xc,wG,seval];refine X0 c2 (X1 _) ?_;simp(disch:=omega)only[ZN,↓Xc,wG,seval];refine⟨fun h=>?_,fun h=>?_⟩
 ·refine X0 c3 (X1 _) ?_
  simp(disch:=omega)only[h,Kt,↓Xc,wG,seval];refine⟨fun h2=>?_,fun h2=>?_⟩
  ·refine X0 c4 (X1 _) ?_
   simp(disch:=omega)only[h,h2,ZN,↓Xc,wG,seval];exact Xn (v:=.bool (decide (0<b.TAB))) rfl rfl (X5 _) (by simp[K9,h,h2])
  ·exact Xn (v:=.bool false) rfl rfl (X5 _) (by simp[K9,h,h2])
 ·exact Xn (v:=.bool false) rfl rfl (X5 _) (by simp[K9,h])
theorem MW (n:V2):(0<Qj n)=(n≠v0):=propext (by
 have h0:∀x:Rat,0≤BI x∧(BI x=0↔x=0):=fun x=>by unfold BI;split <;> constructor <;> grind
 obtain⟨a1,a2⟩:=h0 n.x;obtain⟨b1,b2⟩:=h0 n.y;constructor
 ·rintro h rfl
  have e1:=a2.2 rfl;have e2:=b2.2 rfl;unfold Qj at h;rw[e1,e2]at h;grind
 ·intro h
  refine ZBD.1 fun h2=>h ?_
  unfold Qj at h2;have e1:BI n.x=0:=by grind
  have e2:BI n.y=0:=by grind
  have x0:=a2.1 e1;have y0:=b2.1 e2;cases n;simp only at x0 y0;subst x0 y0;rfl)
theorem fK (g:GG)(hg:vb g.p≤10000∧vb g.q≤10000∧vb g.n≤10000∧qb g.force≤10000∧qb g.E_≤10000):Fn Tryz.prog 24 [gA g] (.bool (Ka g)):=by
 obtain⟨h1,h2,h3,h4,h5⟩:=hg;have c1:=E3 [g.p,g.q,g.n] 10000 (xi h1 h2 h3 (by omega)) (by omega) (by simp);have c2:=TZ g.force g.E_;have c3:=Gu g.n v0 (by unfold vm;omega) (by unfold vm;decide +kernel);refine q_ (fn:=Tryz.f24) Tryz.call24 Tryz.func24 rfl mixed 3 [] [] [] (by kernel_rfl) (K_ rfl) (fun a ha=>Y_.1 ha▸QA g) (Xk ?_);simp(disch:=omega)only[O_,gA,Jd,Xl,↓Xc,wG,seval];refine X0 c1 ⟨JH vC 8 v0 (fun _=>rfl) [g.p,g.q,g.n] _ _ _ _ rfl rfl rfl,trivial⟩ ?_;simp(disch:=omega)only[↓Xc,wG,seval];refine X0 c2 (X1 _) ?_;simp(disch:=omega)only[↓Xc,wG,seval];refine⟨fun h=>?_,fun h=>?_⟩
 ·refine X0 c3 ⟨U_ _,D5 _,trivial⟩ ?_
  simp(disch:=omega)only[h,↓Xc,wG,seval];exact Xn (v:=.bool (!decide (g.n=v0))) rfl rfl (X5 _) (by simp[Ka,h,MW])
 ·exact Xn (v:=.bool false) rfl rfl (X5 _) (by simp[Ka,h])
theorem Nm (g:GG)(hg:gS g):Fn Tryz.prog 24 [gA g] (.bool (Ka g)) :=
 fK g (by obtain⟨h1,h2,h3,h4,h5⟩:=hg;omega)
def ZF (n:V2)(p:Rat×Rat):V2:=(n.scale p.1).add (n.F'.scale p.2)
def zT (p:Rat×Rat):AV:=.agg (Ai p)
theorem Uf (p:Rat×Rat):A_ (zT p):=XE (Lh p)
theorem Bx (a:V2)(k:Rat):vb (a.scale k)≤vb a+qb k:=by
 have h1:=Qa a.x k;have h2:=Qa a.y k;have:=Ja a;have:=J7 a;show max (qb (a.scale k).x) (qb (a.scale k).y)≤_;have e1:qb (a.scale k).x≤vb a+qb k:=m_ h1 (by omega);have e2:qb (a.scale k).y≤vb a+qb k:=m_ h2 (by omega);omega
theorem Pf (n:V2)(p:Rat×Rat)(hn:vb n≤1000)(h1:qb p.1≤2000000)(h2:qb p.2≤2000000):Fn Tryz.prog 95 [vA n,zT p] (vA (ZF n p)):=by
 have t:=AJ n;have s1:=Bx n p.1;have s2:=Bx n.F' p.2;have c1:=Zb n p.1;have c2:=Fb n;have c3:=Zb n.F' p.2;have c4:=QR (n.scale p.1) (n.F'.scale p.2);obtain⟨R,hR⟩:∃R,R=vA (ZF n p):=⟨_,rfl⟩
 have sR:A_ R:=hR▸Xv _;rw[show(n.scale p.1).add (n.F'.scale p.2)=ZF n p from rfl,←hR]at c4;rw[←hR];refine q_ (fn:=Tryz.f95) Tryz.call95 Tryz.func95 rfl mixed 5 [] [] [] (by kernel_rfl) (K_ rfl) (Kk (Xv n) (Uf p)) (Xk ?_);simp(disch:=omega)only[O_,vA,vC,qA,qC,zT,Ai,↓Xc,wG,seval];refine X0 c1 (X1 _) ?_;simp(disch:=omega)only[↓Xc,wG,seval];refine X0 c2 (X1 _) ?_;simp(disch:=omega)only[↓Xc,wG,seval];refine X0 c3 (X1 _) ?_;simp(disch:=omega)only[↓Xc,wG,seval];refine X0 c4 (X1 _) ?_;simp(disch:=omega)only[hR,vA,vC,qC,↓Xc,wG,seval];exact ZK rfl Jn rfl rfl rfl sR (hR.trans rfl)
def pI (x y:Int):V2:=⟨x,y⟩
def sqV:List V2:=[v0,pI 2 0,pI 2 2,pI 0 2]
def Fr (n:Int):BB:=⟨pI 1 1,P' 1 1,P' 2 1,P' n 1⟩
theorem DF:∀ {L M:List AV},TAF L M→∀j,B' (Xf L j) (Xf M j)
 | [],[],_,j=>U_ _
 |a :: L,b :: M,h,0=>h.1
 |a :: L,b :: M,h,j+1=>DF (L:=L) (M:=M) h.2 j
theorem W1:Fn Tryz.prog 75 [] (Qx sqV):=by
 have c1:=KQ 2 0 ⟨by omega,by omega⟩ ⟨by omega,by omega⟩;have c2:=KQ 2 2 ⟨by omega,by omega⟩ ⟨by omega,by omega⟩;have c3:=KQ 0 2 ⟨by omega,by omega⟩ ⟨by omega,by omega⟩;rw[show(⟨((2:Int):Rat),((0:Int):Rat)⟩:V2)=pI 2 0 from rfl]at c1;rw[show(⟨((2:Int):Rat),((2:Int):Rat)⟩:V2)=pI 2 2 from rfl]at c2;rw[show(⟨((0:Int):Rat),((2:Int):Rat)⟩:V2)=pI 0 2 from rfl]at c3;obtain⟨R,hR⟩:∃R,R=Qx sqV:=⟨_,rfl⟩
 have sR:A_ R:=hR▸Xs _;rw[←hR];refine q_ (fn:=Tryz.f75) Tryz.call75 Tryz.func75 rfl mixed 1 [] [] [] (by kernel_rfl) (K_ rfl) (by simp) (Xk ?_);simp(disch:=omega)only[O_,↓Xc,wG,seval];refine X2 c1 rfl ?_;simp(disch:=omega)only[vA,vC,↓Xc,wG,seval];refine X2 c2 rfl ?_;simp(disch:=omega)only[vA,vC,↓Xc,wG,seval];refine X2 c3 rfl ?_;simp(disch:=omega)only[vA,vC,↓Xc,wG,seval];refine C4 rfl (Xp sR ?_);rw[hR];have w:=QB false;have hL:TAF ([.bool false,.sl 0 0 (fun _=>.any) false,.bool false,.sl 0 0 (fun _=>.any) false,.bool false,.sl 0 0 (fun _=>.any) false,.bool false,.sl 0 0 (fun _=>.any) false] ++ (vC (pI 2 0) ++ vC (pI 2 2) ++ vC (pI 0 2))) (sqV.flatMap vC) :=
  ⟨w.1,w.2.1,w.2.2.1,w.2.2.2.1,w.1,w.2.1,w.2.2.1,w.2.2.2.1,X1 _⟩
 exact QC rfl (N' _) fun j hj=>by
  rw[←Cl vC 8 v0 (fun _=>rfl) sqV j hj];exact DF hL j
theorem OL (n:Int)(hn:Ap n):Fn Tryz.prog 76 [I n] (bA (Fr n)):=by
 have c1:=KQ 1 1 ⟨by omega,by omega⟩ ⟨by omega,by omega⟩;rw[show(⟨((1:Int):Rat),((1:Int):Rat)⟩:V2)=pI 1 1 from rfl]at c1;have c2:=XL 1 1 ⟨by omega,by omega⟩ ⟨by omega,by omega⟩;have c3:=XL 2 1 ⟨by omega,by omega⟩ ⟨by omega,by omega⟩;have c4:=XL n 1 hn ⟨by omega,by omega⟩;obtain⟨R,hR⟩:∃R,R=bA (Fr n):=⟨_,rfl⟩
 have sR:A_ R:=hR▸QU _;rw[←hR];refine q_ (fn:=Tryz.f76) Tryz.call76 Tryz.func76 rfl mixed 3 [] [] [] (by kernel_rfl) (K_ rfl) (fun a ha=>Y_.1 ha▸X8 n) (Xk ?_);simp(disch:=omega)only[O_,↓Xc,wG,seval];refine X2 c1 rfl ?_;simp(disch:=omega)only[vA,vC,↓Xc,wG,seval];refine X2 c2 rfl ?_;simp(disch:=omega)only[qA,qC,↓Xc,wG,seval];refine X2 c3 rfl ?_;simp(disch:=omega)only[qA,qC,↓Xc,wG,seval];refine X2 c4 rfl ?_;simp(disch:=omega)only[qA,qC,↓Xc,wG,seval];exact Kc rfl YN rfl rfl rfl (Xp sR (by rw[hR];exact U_ _))
def Na (g:GG)(p:Rat×Rat):Prop:=0≤p.1∧BI p.2≤g.E_*p.1∧p.1*Qj g.n≤g.force
def UB (b:BB)(g:GG)(p q:Rat×Rat):Rat:=Xq (g.p.sub b.c) (ZF g.n p)+Xq (g.q.sub b.c) (ZF g.n.opp q)
def Il (b:BB)(g:GG)(k:Rat)(p q:Rat×Rat):Prop :=
 0≤k∧k≤16∧Na g p∧Na g q∧0+p.1*Qj g.n+q.1*Qj g.n≤b.TAB∧(ZF g.n p).add (ZF g.n.opp q)=⟨0,k*b.TAD⟩∧UB b g p q=0
theorem WW (x y:Rat):BI x≤y↔x≤y∧-x≤y:=by unfold BI;split <;> constructor <;> grind
theorem VR (b:BB)(g:GG)(k:Rat)(p q:Rat×Rat):Il b g k p q↔okP b g p.1 p.2 q.1 q.2 k:=by
 unfold Il Na;rw[WW,WW];have ext:∀ (u v:V2),u=v↔u.x=v.x∧u.y=v.y:=fun u v=>by cases u;cases v;simp
 rw[ext];have e1:((ZF g.n p).add (ZF g.n.opp q)).x=g.n.x*p.1 + -g.n.y*p.2-g.n.x*q.1 - -g.n.y*q.2:=by simp only[ZF,V2.add,V2.scale,V2.F',V2.opp];grind
 have e2:((ZF g.n p).add (ZF g.n.opp q)).y=g.n.y*p.1+g.n.x*p.2-g.n.y*q.1-g.n.x*q.2:=by simp only[ZF,V2.add,V2.scale,V2.F',V2.opp];grind
 have e3:UB b g p q=Xq (g.p.sub b.c) g.n*p.1+Xq (g.p.sub b.c) ⟨-g.n.y,g.n.x⟩*p.2-Xq (g.q.sub b.c) g.n*q.1-Xq (g.q.sub b.c) ⟨-g.n.y,g.n.x⟩*q.2:=by simp only[UB,ZF,V2.add,V2.scale,V2.F',V2.opp,Xq];grind
 rw[e1,e2,e3];constructor
 ·rintro⟨k0,k1,⟨a0,⟨r0,s0⟩,f0⟩,⟨a1,⟨r1,s1⟩,f1⟩,st,⟨ex,ey⟩,et⟩
  have:=okP.mk (b:=b) (g:=g) (a0:=p.1) (c0:=p.2) (a1:=q.1) (c1:=q.2) (k:=k) a0;refine⟨?_,?_,?_,?_,?_,?_,?_,?_,?_,?_,?_,?_,?_,?_⟩ <;> first |assumption |grind
 ·intro h
  obtain⟨a0,a1,r0,r1,s0,s1,f0,f1,st,k0,k1,ex,ey,et⟩:=h;refine⟨k0,k1,⟨a0,⟨r0,s0⟩,?_⟩,⟨a1,⟨r1,s1⟩,?_⟩,?_,⟨ex,?_⟩,et⟩ <;> grind
theorem sq0 {x y:Rat}(h:x*x+y*y=0):x=0∧y=0:=by
 have hx:=Bu x;have hy:=Bu y;have h1:x*x=0:=by grind
 have h2:y*y=0:=by grind
 exact⟨by rcases ZA9.1 h1 with h |h <;> exact h,by rcases ZA9.1 h2 with h |h <;> exact h⟩
theorem LS {x y:Rat}(h:¬ (x=0∧y=0)):0<x*x+y*y:=by
 have hx:=Bu x;have hy:=Bu y;have:¬x*x+y*y=0:=fun e=>h (sq0 e)
 grind
theorem Ho (u1 u2 v1 v2 y1 y2:Rat)(h:u1*v2 - u2*v1=0)(hd:0<u1*v1+u2*v2):y1*u2-y2*u1=0∨0<(y1*u2-y2*u1)*(y1*v2-y2*v1):=by
 by_cases hc:y1*u2-y2*u1=0
 ·exact .inl hc
 ·right
  have e:(y1*u2-y2*u1)*(y1*v2-y2*v1)*(u1*v1+u2*v2)=(y1*u2-y2*u1)*(y1*u2-y2*u1)*(v1*v1+v2*v2)+(y1*u2-y2*u1)*(u1*v2-u2*v1)*(y1*v1+y2*v2):=by grind
  rw[h]at e;have hv:0<v1*v1+v2*v2:=LS fun⟨a,b⟩=>by rw[a,b]at hd;grind
  have hcc:0<(y1*u2-y2*u1)*(y1*u2-y2*u1):=by
   have:=Bu (y1*u2-y2*u1);have h2:¬ (y1*u2-y2*u1)*(y1*u2-y2*u1)=0:=fun e=>by rcases ZA9.1 e with h |h <;> exact hc h
   grind
  have hp:=ZBJ hcc hv;refine ZBD.1 fun hn=>?_
  have:=ZAS (show 0≤-((y1*u2-y2*u1)*(y1*v2-y2*v1))by grind) (ZBI hd);grind
theorem Du {p q:Rat}(h:0<p*q):(0<p∧0<q)∨(p<0∧q<0):=by
 rcases Rat.le_total (a:=0) (b:=p)with hp |hp
 ·left
  have hp2:0<p:=by
   refine ZBD.1 fun g=>?_
   have:p=0:=by grind
   rw[this]at h;grind
  refine⟨hp2,ZBD.1 fun g=>?_⟩;have:=ZAS hp (show 0≤-q by grind);grind
 ·right
  have hp2:p<0:=by
   refine ZBD.1 fun g=>?_
   have:p=0:=by grind
   rw[this]at h;grind
  refine⟨hp2,ZBD.1 fun g=>?_⟩;have:=ZAS (show 0≤-p by grind) g;grind
theorem mW (x1 x2 m1 m2 k1 k2:Rat)(hx:¬ (x1=0∧x2=0)) (hp:x1*m2-x2*m1=0) (hq:x1*k2-x2*k1=0)
  (h1:0<m1*(m1-x1)+m2*(m2-x2)) (h2:0<k1*(k1-x1)+k2*(k2-x2)) (h3:0<m1*k1+m2*k2) :
  (x1*x1+x2*x2<x1*m1+x2*m2∧x1*x1+x2*x2<x1*k1+x2*k2)∨(x1*m1+x2*m2<0∧x1*k1+x2*k2<0):=by
 have hn:=LS hx;have e1:(x1*m1+x2*m2)*(x1*m1+x2*m2-(x1*x1+x2*x2))=(x1*x1+x2*x2)*(m1*(m1-x1)+m2*(m2-x2))-(x1*m2-x2*m1)*(x1*m2-x2*m1):=by grind
 have e2:(x1*k1+x2*k2)*(x1*k1+x2*k2-(x1*x1+x2*x2))=(x1*x1+x2*x2)*(k1*(k1-x1)+k2*(k2-x2))-(x1*k2-x2*k1)*(x1*k2-x2*k1):=by grind
 have e3:(x1*m1+x2*m2)*(x1*k1+x2*k2)=(x1*x1+x2*x2)*(m1*k1+m2*k2)-(x1*m2-x2*m1)*(x1*k2-x2*k1):=by grind
 rw[hp]at e1;rw[hq]at e2;rw[hp]at e3;have p1:=ZBJ hn h1;have p2:=ZBJ hn h2;have p3:=ZBJ hn h3;have g1:0<(x1*m1+x2*m2)*(x1*m1+x2*m2-(x1*x1+x2*x2)):=by grind
 have g2:0<(x1*k1+x2*k2)*(x1*k1+x2*k2-(x1*x1+x2*x2)):=by grind
 have g3:0<(x1*m1+x2*m2)*(x1*k1+x2*k2):=by grind
 generalize x1*m1+x2*m2=C at *;generalize x1*k1+x2*k2=D at *;generalize x1*x1+x2*x2=N at *;rcases Du g3 with⟨a,b⟩ | ⟨a,b⟩
 ·left
  rcases Du g1 with⟨_,c⟩ | ⟨c,_⟩
  ·rcases Du g2 with⟨_,d⟩ | ⟨d,_⟩
   ·exact⟨by grind,by grind⟩
   ·grind
  ·grind
 ·exact .inr ⟨a,b⟩
theorem Mv (m1 m2 x1 x2 k1 k2:Rat)(hm:¬ (m1=0∧m2=0)) (h1:x1*m2-x2*m1=0) (h2:m1*k2-m2*k1=0):x1*k2-x2*k1=0:=by
 have hn:=LS hm;have e:(m1*m1+m2*m2)*(x1*k2-x2*k1)=(x1*m1+x2*m2)*(m1*k2-m2*k1)+(x1*m2-x2*m1)*(m1*k1+m2*k2):=by grind
 rw[h1,h2]at e;have e2:(m1*m1+m2*m2)*(x1*k2-x2*k1)=0:=by grind
 rcases ZA9.1 e2 with h |h
 ·grind
 ·exact h
theorem zY (x1 x2 m1 m2 k1 k2:Rat)(hx:¬ (x1=0∧x2=0))
  (P:x1*m2-x2*m1=0→0<m1*(m1-x1)+m2*(m2-x2)) (Q:x1*k2-x2*k1=0→0<k1*(k1-x1)+k2*(k2-x2))
  (R:m1*k2-m2*k1=0→0<m1*k1+m2*k2) (S:(k1-m1)*(x2-m2)-(k2-m2)*(x1-m1)=0→0<(m1-x1)*(k1-x1)+(m2-x2)*(k2-x2))
  (hn:¬ ((x1*m2-x2*m1)*(x1*k2-x2*k1)<0∧(m1*k2-m2*k1)*((k1-m1)*(x2-m2)-(k2-m2)*(x1-m1))<0)) :
  0<(x1*m2-x2*m1)*(x1*k2-x2*k1)∨0<(m1*k2-m2*k1)*((k1-m1)*(x2-m2)-(k2-m2)*(x1-m1)) ∨
  ((x1*x1+x2*x2<x1*m1+x2*m2∧x1*x1+x2*x2<x1*k1+x2*k2)∨(x1*m1+x2*m2<0∧x1*k1+x2*k2<0)):=by
 by_cases hp:x1*m2-x2*m1=0
 ·have h1:=P hp
  have hm:¬ (m1=0∧m2=0):=fun⟨a,b⟩=>by rw[a,b]at h1;grind
  rcases Ho (-m1) (-m2) (x1-m1) (x2-m2) (k1-m1) (k2-m2) (by grind) (by grind)with h |h
  ·have hr:m1*k2-m2*k1=0:=by grind
   have hq:=Mv m1 m2 x1 x2 k1 k2 hm hp hr;exact Or.inr (Or.inr (mW x1 x2 m1 m2 k1 k2 hx hp hq h1 (Q hq) (R hr)))
  ·exact Or.inr (Or.inl (by grind))
 by_cases hq:x1*k2-x2*k1=0
 ·have h1:=Q hq
  have hk:¬ (k1=0∧k2=0):=fun⟨a,b⟩=>by rw[a,b]at h1;grind
  rcases Ho (-k1) (-k2) (x1-k1) (x2-k2) (k1-m1) (k2-m2) (by grind) (by grind)with h |h
  ·have hr:m1*k2-m2*k1=0:=by grind
   exact absurd (Mv k1 k2 x1 x2 m1 m2 hk hq (by grind)) hp
  ·exact Or.inr (Or.inl (by grind))
 by_cases hr:m1*k2-m2*k1=0
 ·rcases Ho m1 m2 k1 k2 x1 x2 hr (R hr)with h |h
  ·exact absurd h hp
  ·exact Or.inl h
 by_cases hs:(k1-m1)*(x2-m2)-(k2-m2)*(x1-m1)=0
 ·rcases Ho (m1-x1) (m2-x2) (k1-x1) (k2-x2) x1 x2 (by grind) (S hs)with h |h
  ·exact absurd (by grind) hp
  ·exact Or.inl (by grind)
 have ne1:¬ (x1*m2-x2*m1)*(x1*k2-x2*k1)=0:=fun e=>by
  rcases ZA9.1 e with h |h
  ·exact hp h
  ·exact hq h
 have ne2:¬ (m1*k2-m2*k1)*((k1-m1)*(x2-m2)-(k2-m2)*(x1-m1))=0:=fun e=>by
  rcases ZA9.1 e with h |h
  ·exact hr h
  ·exact hs h
 generalize (x1*m2-x2*m1)*(x1*k2-x2*k1)=A at *;generalize (m1*k2-m2*k1)*((k1-m1)*(x2-m2)-(k2-m2)*(x1-m1))=B at *;grind
theorem aG (p q:Rat)(h:p.num.sign*q.num.sign<0→False):¬p*q<0:=fun hh=>by
 have hh:0<p * -q:=by grind
 rcases Du hh with⟨a,b⟩ | ⟨a,b⟩
 ·have h1:=(Ek p).2 a
  have h2:=(HK q).2 (by grind);exact h (Int.mul_neg_of_pos_of_neg h1 h2)
 ·have h1:=(HK p).2 a
  have h2:=(Ek q).2 (by grind);exact h (Int.mul_neg_of_neg_of_pos h1 h2)
theorem Hj (a b p:V2)(h:OT a b p=false)(h0:Xq (b.sub a) (p.sub a)=0):0<Qn (a.sub p) (b.sub p):=by
 unfold OT Ky at h;rw[h0]at h;have h2:¬ (Qn (a.sub p) (b.sub p)).num.sign≤0:=by simpa using h
 exact(Ek _).1 (by omega)
theorem DS (n a b c d:V2)(h:((Qn n a<Qn n c∧Qn n a<Qn n d)∧(Qn n b<Qn n c∧Qn n b<Qn n d))∨((Qn n c<Qn n a∧Qn n d<Qn n a)∧(Qn n c<Qn n b∧Qn n d<Qn n b))):Zi n a b c d=true:=by
 unfold Zi IV;simp only[Bool.or_eq_true,x_,decide_eq_true_eq];rcases h with⟨⟨h1,h2⟩,h3,h4⟩ | ⟨⟨h1,h2⟩,h3,h4⟩
 ·exact .inl ⟨⟨⟨h1,h2⟩,h3⟩,h4⟩
 ·exact .inr ⟨⟨⟨h1,h3⟩,h2⟩,h4⟩
theorem OO (a b c d:V2)(hab:a≠b)(h:Ad a b c d=false):¬AZ a b c d:=by
 unfold Ad at h;simp only[Bool.or_eq_false_iff]at h;obtain⟨⟨⟨⟨h1,h2⟩,h3⟩,h4⟩,h5⟩:=h;have hx:¬ (b.x-a.x=0∧b.y-a.y=0):=fun⟨e1,e2⟩=>hab (by cases a;cases b;simp only[V2.mk.injEq];exact⟨by grind,by grind⟩)
 have n:=zY (b.x-a.x) (b.y-a.y) (c.x-a.x) (c.y-a.y) (d.x-a.x) (d.y-a.y) hx
  (fun e=>by have:=Hj a b c h2 (by unfold Xq V2.sub;grind);unfold Qn V2.sub at this;grind)
  (fun e=>by have:=Hj a b d h3 (by unfold Xq V2.sub;grind);unfold Qn V2.sub at this;grind)
  (fun e=>by have:=Hj c d a h4 (by unfold Xq V2.sub;grind);unfold Qn V2.sub at this;grind)
  (fun e=>by have:=Hj c d b h5 (by unfold Xq V2.sub;grind);unfold Qn V2.sub at this;grind)
  (by
   rintro⟨g1,g2⟩;unfold Ce Ky at h1;rw[Bool.and_eq_false_iff,decide_eq_false_iff_not,decide_eq_false_iff_not]at h1;rcases h1 with h1 |h1
   ·have h1:=aG _ _ h1
    unfold Xq V2.sub at h1;grind
   ·have h1:=aG _ _ h1
    unfold Xq V2.sub at h1;grind)
 intro hm;rcases n with n |n |n
 ·have:=hm 0 (by omega)
  rw[DS _ _ _ _ _ ?_]at this
  ·exact absurd this (by decide)
  ·unfold Ey Qn V2.F' V2.sub
   rcases Du n with⟨g1,g2⟩ | ⟨g1,g2⟩
   ·left;grind
   ·right;grind
 ·have:=hm 1 (by omega)
  rw[DS _ _ _ _ _ ?_]at this
  ·exact absurd this (by decide)
  ·unfold Ey Qn V2.F' V2.sub
   rcases Du n with⟨g1,g2⟩ | ⟨g1,g2⟩
   ·right;grind
   ·left;grind
 ·have:=hm 2 (by omega)
  rw[DS _ _ _ _ _ ?_]at this
  ·exact absurd this (by decide)
  ·unfold Ey Qn V2.sub
   have hn:=LS hx;rcases n with⟨g1,g2⟩ | ⟨g1,g2⟩
   ·left;grind
   ·right;grind
theorem W3 (a b c d:V2):Ad a b c d=Ad c d a b:=by
 unfold Ad;have:Ce a b c d=Ce c d a b:=by unfold Ce;rw[Bool.and_comm]
 rw[this];cases Ce c d a b <;> cases OT a b c <;> cases OT a b d <;> cases OT c d a <;> cases OT c d b <;> rfl
theorem LR {a b c:V2}(h:¬Ky a b c=0):a≠b:=by
 rintro rfl;refine h ?_;unfold Ky;have:Xq (a.sub a) (c.sub a)=0:=by unfold Xq V2.sub;grind
 rw[this];rfl
theorem mu (L:List V2)(h:C1 L):Ax L:=by
 obtain⟨h1,h2,h3⟩:=h;refine⟨h1,fun i hi=>⟨(h2 i hi).1,fun k hk hb=>?_⟩,h3⟩;obtain⟨b1,b2,b3⟩:=hb;have hne:∀j,j<L.length→atF L j≠atF L (j+1):=fun j hj=>LR (h2 j hj).1
 rcases ZDo k i with hki |hki
 ·have e:(k+L.length-i)%L.length=k+L.length-i:=ZAJ (by omega)
  rw[e]at b1 b2;have hp:=(h2 k hk).2 i (by omega) hi;have hm:(i+1)%L.length≠k:=by
   rcases ZDo (i+1) L.length with g |g
   ·rw[ZAJ g];omega
   ·rw[show i+1=L.length by omega,ZC6];omega
  have hf:Ad (atF L k) (atF L (k+1)) (atF L i) (atF L (i+1))=false:=by
   rw[←ZA7];exact fun g=>hp ⟨hm,g⟩
  rw[W3]at hf;exact OO _ _ _ _ (hne i hi) hf b3
 ·have e:(k+L.length-i)%L.length=k-i:=by
   rw[show k+L.length-i=(k-i)+L.length by omega,Nat.add_mod_right,ZAJ (by omega)]
  rw[e]at b1 b2;have hp:=(h2 i hi).2 k (by omega) hk;have hm:(k+1)%L.length≠i:=by
   rcases ZDo (k+1) L.length with g |g
   ·rw[ZAJ g];omega
   ·rw[show k+1=L.length by omega,ZC6];omega
  have hf:Ad (atF L i) (atF L (i+1)) (atF L k) (atF L (k+1))=false:=by
   rw[←ZA7];exact fun g=>hp ⟨hm,g⟩
  exact OO _ _ _ _ (hne i hi) hf b3
theorem Hr (L:List V2):Ax L↔C1 L:=⟨mC L,mu L⟩
theorem Nt (r:Rat):(r.num.sign<0)=(r<0):=propext (by rw[ZA6,Rat.lt_iff];simp)
theorem Wn (b:BB)(g:GG)(k:Rat)(p q:Rat×Rat)(hb:bS b)(hg:gS g)(hk:qb k≤1500000)(p1:qb p.1≤1500000)(p2:qb p.2≤1500000)(p3:qb q.1≤1500000)(p4:qb q.2≤1500000) :
  Fn Tryz.prog 28 [bA b,gA g,qA k,C6 [p,q]] (.bool (decide (Il b g k p q))):=by
 obtain⟨b1,b2,b3,b4⟩:=hb;obtain⟨g1,g2,g3,g4,g5⟩:=hg;have hS:∀a∈[bA b,gA g,qA k,C6 [p,q]],A_ a:=by simp[QU,QA,Xb,Jh]
 have hP:C6 [p,q]=.sl 2 16 (Xw Ai 8 (0,0) [p,q]) false:=rfl;have hF:Xw Ai 8 (0,0) [p,q] 0=ZAX (sg p.1)∧Xw Ai 8 (0,0) [p,q] 1=X9 (Xa (p.1).num.natAbs)∧Xw Ai 8 (0,0) [p,q] 2=ZAX false∧Xw Ai 8 (0,0) [p,q] 3=X9 (Xa (qd p.1))∧Xw Ai 8 (0,0) [p,q] 4=ZAX (sg p.2)∧Xw Ai 8 (0,0) [p,q] 5=X9 (Xa (p.2).num.natAbs)∧Xw Ai 8 (0,0) [p,q] 6=ZAX false∧Xw Ai 8 (0,0) [p,q] 7=X9 (Xa (qd p.2))∧Xw Ai 8 (0,0) [p,q] 8=ZAX (sg q.1)∧Xw Ai 8 (0,0) [p,q] 9=X9 (Xa (q.1).num.natAbs)∧Xw Ai 8 (0,0) [p,q] 10=ZAX false∧Xw Ai 8 (0,0) [p,q] 11=X9 (Xa (qd q.1))∧Xw Ai 8 (0,0) [p,q] 12=ZAX (sg q.2)∧Xw Ai 8 (0,0) [p,q] 13=X9 (Xa (q.2).num.natAbs)∧Xw Ai 8 (0,0) [p,q] 14=ZAX false∧Xw Ai 8 (0,0) [p,q] 15=X9 (Xa (qd q.2)):=⟨rfl,rfl,rfl,rfl,rfl,rfl,rfl,rfl,rfl,rfl,rfl,rfl,rfl,rfl,rfl,rfl⟩
 have rk:qb k≤rm:=by unfold rm;omega
 have v1:=KH k rk;have s1:=Q8 k rk;have o1:=XL 16 1 ⟨by omega,by omega⟩ ⟨by omega,by omega⟩;rw[show P' 16 1=16 by decide +kernel]at o1;have m1:=J2 k 16 rk (by decide +kernel);have gf:=gF g;have bf:=bF b;obtain⟨D,hD⟩:∃D,D=decide (Il b g k p q):=⟨_,rfl⟩
 rw[←hD];have no:¬Il b g k p q→D=false:=fun h=>by rw[hD];exact Z_ h
 refine q_ (fn:=Tryz.f28) Tryz.call28 Tryz.func28 rfl mixed 16 [] [9,13,14,15] [] (by kernel_rfl) (K_ rfl) hS (Xk ?_);simp(disch:=omega)only[O_,bA,gA,Jc,Jd,Xl,qA,qC,hP,↓Xc,wG,seval];refine X0 v1 (X1 _) ?_;simp(disch:=omega)only[↓Xc,wG,seval];refine X0 s1 (X1 _) ?_;simp(disch:=omega)only[Nt,↓Xc,wG,seval];refine⟨fun h=>?_,fun h=>?_⟩
 ·exact Xn (v:=.bool false) rfl rfl (X5 _) (by rw[no fun h2=>by have:=h2.1;grind])
 refine X2 o1 rfl ?_;simp(disch:=omega)only[qA,qC,↓Xc,wG,seval];refine X0 m1 (X1 _) ?_;simp(disch:=omega)only[Zy,↓Xc,wG,seval];refine⟨fun h2=>?_,fun h2=>?_⟩
 ·exact Xn (v:=.bool false) rfl rfl (X5 _) (by rw[no fun h3=>by have:=h3.2.1;grind])
 have lq:=aq g.n;have w5:=Qa p.1 (Qj g.n);have w6:=Qa q.1 (Qj g.n);obtain⟨sm,sm0,sm1,sm2⟩:∃sm:Nat→Rat,sm 0=0∧sm 1=sm 0+p.1*Qj g.n∧sm 2=sm 1+q.1*Qj g.n:=⟨fun i=>match i with |0=>0 |1=>0+p.1*Qj g.n |_=>0+p.1*Qj g.n+q.1*Qj g.n,rfl,rfl,rfl⟩
 have q0:qb (sm 0)≤250:=by rw[sm0];decide +kernel
 have q1:qb (sm 1)≤1600000:=by rw[sm1];have:=KE (sm 0) (p.1*Qj g.n);omega
 have hz:∀ (H:List AO) (j:Nat),j<4→Jj H (Xf [.bool false,.sl 0 0 (fun _=>.any) false,.bool false,.sl 0 0 (fun _=>.any) false] j) (Xf (qC (sm 0)) j):=fun H j hj=>Xy (by rw[sm0];exact DF (QB false) j)
 refine d_ ?_ (Qe 3 (Xf (qC (sm 0))) rfl (hz _));refine d_ ?_ (Xz 0 rfl);refine d_ ?_ (Xz 1 rfl);refine d_ ?_ (Xz 2 rfl);refine d_ ?_ (XK 4 rfl rfl);refine d_ ?_ (XK 5 rfl rfl);refine d_ ?_ (XK 6 rfl rfl);refine Xj (fun i:Nat=>⟨16,[],[.any,.any,.any,C6 [p,q],bP b,gP g,JN k,.any,.any,.ref 3 0 0,I i,.any,.any,.any,.any,.any],[],[.con 0 20 (Xf (bC b)),.con 0 32 (Xf (gC g)),.con 0 4 (Xf (qC k)),.row 0 4 (Xf (qC (sm i)))]⟩) (fun i=>i≤2∧(1≤i→Na g p)∧(2≤i→Na g q)) (fun i=>2-i) 0 ⟨by omega,fun h=>by omega,fun h=>by omega⟩
  (Xh rfl (by exact⟨.inl rfl,.inl rfl,.inl rfl,.inr rfl,.inr rfl,.inr rfl,.inr rfl,.inl rfl,.inl rfl,.inr rfl,.inr rfl,.inl rfl,.inl rfl,.inl rfl,.inl rfl,.inl rfl,trivial⟩) trivial (by rw[Jc,Jd];rfl)) ?_
 have bl:∀i:Nat,∀a∈([.any,.any,.any,C6 [p,q],bP b,gP g,JN k,.any,.any,.ref 3 0 0,I i,.any,.any,.any,.any,.any]:List AV),Jl 4 a:=fun i a ha=>by
  simp only[b_,V_,or_false]at ha;have sa:=X4 (m:=4) Jg;have sb:=X4 (m:=4) (show A_ (bP b)from XR fun j _=>Xe (KI b) j);have sg':=X4 (m:=4) (show A_ (gP g)from XR fun j _=>Xe (Kh g) j);have sk:=X4 (m:=4) (show A_ (JN k)from XR fun j _=>Xe (XU k) j);have sp:=X4 (m:=4) (Jh [p,q]);have si:=X4 (m:=4) (X8 i);have sr:Jl 4 (.ref 3 0 0):=QX;rcases ha with rfl |rfl |rfl |rfl |rfl |rfl |rfl |rfl |rfl |rfl |rfl |rfl |rfl |rfl |rfl |rfl <;> assumption
 have bo:∀x:Rat,∀o∈[AO.con 0 20 (Xf (bC b)),.con 0 32 (Xf (gC g)),.con 0 4 (Xf (qC k)),.row 0 4 (Xf (qC x))],Q0 4 o:=fun x o ho=>by
  simp only[b_,V_,or_false]at ho;rcases ho with rfl |rfl |rfl |rfl
  ·exact fun j _=>X4 (Xe (KI b) j)
  ·exact fun j _=>X4 (Xe (Kh g) j)
  ·exact fun j _=>X4 (Xe (XU k) j)
  ·exact DR _ _ _
 rintro i ⟨hi,hp,hq⟩ next
 match i,hi with
 |0,_ =>
  have nx:=next 1
  refine Xk ?_;simp(disch:=omega)only[hP,hF,gf,bf,gP,bP,JN,qA,qC,↓Xc,wG,seval];refine X0 (KH p.1) (X1 _) ?_;simp(disch:=omega)only[hP,hF,gf,bf,↓Xc,wG,seval];refine X0 (KH p.2) (X1 _) ?_;simp(disch:=omega)only[hP,hF,gf,bf,↓Xc,wG,seval];refine X0 (Q8 p.1) (X1 _) ?_;simp(disch:=omega)only[hP,hF,gf,bf,Nt,↓Xc,wG,seval];refine⟨fun h3=>?_,fun h3=>?_⟩
  ·exact Xn (v:=.bool false) rfl rfl (X5 _) (by rw[no fun ho=>by have:=ho.2.2.1.1;grind])
  refine X0 (HD p.2 (by unfold rm;omega)) (X1 _) ?_;simp(disch:=omega)only[hP,hF,gf,bf,qA,qC,↓Xc,wG,seval];refine X0 (Qm g.E_ p.1) (X1 _) ?_;simp(disch:=omega)only[hP,hF,gf,bf,qA,qC,↓Xc,wG,seval];have w1:=Qa g.E_ p.1;refine X0 (J2 (BI p.2) (g.E_*p.1) (by rw[EX];unfold rm;omega)) (X1 _) ?_;simp(disch:=omega)only[hP,hF,gf,bf,Zy,↓Xc,wG,seval];refine⟨fun h4=>?_,fun h4=>?_⟩
  ·exact Xn (v:=.bool false) rfl rfl (X5 _) (by rw[no fun ho=>by have:=ho.2.2.1.2.1;grind])
  refine X0 (Gv g.n) (X1 _) ?_;simp(disch:=omega)only[hP,hF,gf,bf,qA,qC,↓Xc,wG,seval];refine X0 (Qm p.1 (Qj g.n)) (X1 _) ?_;simp(disch:=omega)only[hP,hF,gf,bf,qA,qC,↓Xc,wG,seval];refine X0 (J2 (p.1*Qj g.n) g.force) (X1 _) ?_;simp(disch:=omega)only[hP,hF,gf,bf,Zy,↓Xc,wG,seval];refine⟨fun h5=>?_,fun h5=>?_⟩
  ·exact Xn (v:=.bool false) rfl rfl (X5 _) (by rw[no fun ho=>by have:=ho.2.2.1.2.2;grind])
  refine X0 (QT (sm 0) (p.1*Qj g.n)) (X1 _) ?_;simp(disch:=omega)only[hP,hF,gf,bf,qA,qC,↓Xc,wG,seval];refine nx _ ⟨by omega,fun _=>⟨by grind,by grind,by grind⟩,fun h=>by omega⟩ (by omega) (XG (m:=4) (p_ _) rfl ⟨.inl rfl,.inl rfl,.inl rfl,.inr rfl,.inr rfl,.inr rfl,.inr rfl,.inl rfl,.inl rfl,.inr rfl,.inr rfl,.inl rfl,.inl rfl,.inl rfl,.inl rfl,.inl rfl,trivial⟩ trivial (by rw[sm1];rfl) (bl _) (by simp[XP]) (bo _))
 |1,_ =>
  have nx:=next 2
  refine Xk ?_;simp(disch:=omega)only[hP,hF,gf,bf,gP,bP,JN,qA,qC,↓Xc,wG,seval];refine X0 (KH q.1) (X1 _) ?_;simp(disch:=omega)only[hP,hF,gf,bf,↓Xc,wG,seval];refine X0 (KH q.2) (X1 _) ?_;simp(disch:=omega)only[hP,hF,gf,bf,↓Xc,wG,seval];refine X0 (Q8 q.1) (X1 _) ?_;simp(disch:=omega)only[hP,hF,gf,bf,Nt,↓Xc,wG,seval];refine⟨fun h3=>?_,fun h3=>?_⟩
  ·exact Xn (v:=.bool false) rfl rfl (X5 _) (by rw[no fun ho=>by have:=ho.2.2.2.1.1;grind])
  refine X0 (HD q.2 (by unfold rm;omega)) (X1 _) ?_;simp(disch:=omega)only[hP,hF,gf,bf,qA,qC,↓Xc,wG,seval];refine X0 (Qm g.E_ q.1) (X1 _) ?_;simp(disch:=omega)only[hP,hF,gf,bf,qA,qC,↓Xc,wG,seval];have w1:=Qa g.E_ q.1;refine X0 (J2 (BI q.2) (g.E_*q.1) (by rw[EX];unfold rm;omega)) (X1 _) ?_;simp(disch:=omega)only[hP,hF,gf,bf,Zy,↓Xc,wG,seval];refine⟨fun h4=>?_,fun h4=>?_⟩
  ·exact Xn (v:=.bool false) rfl rfl (X5 _) (by rw[no fun ho=>by have:=ho.2.2.2.1.2.1;grind])
  refine X0 (Gv g.n) (X1 _) ?_;simp(disch:=omega)only[hP,hF,gf,bf,qA,qC,↓Xc,wG,seval];refine X0 (Qm q.1 (Qj g.n)) (X1 _) ?_;simp(disch:=omega)only[hP,hF,gf,bf,qA,qC,↓Xc,wG,seval];refine X0 (J2 (q.1*Qj g.n) g.force) (X1 _) ?_;simp(disch:=omega)only[hP,hF,gf,bf,Zy,↓Xc,wG,seval];refine⟨fun h5=>?_,fun h5=>?_⟩
  ·exact Xn (v:=.bool false) rfl rfl (X5 _) (by rw[no fun ho=>by have:=ho.2.2.2.1.2.2;grind])
  refine X0 (QT (sm 1) (q.1*Qj g.n)) (X1 _) ?_;simp(disch:=omega)only[hP,hF,gf,bf,qA,qC,↓Xc,wG,seval];refine nx _ ⟨by omega,fun _=>hp (by omega),fun _=>⟨by grind,by grind,by grind⟩⟩ (by omega) (XG (m:=4) (p_ _) rfl ⟨.inl rfl,.inl rfl,.inl rfl,.inr rfl,.inr rfl,.inr rfl,.inr rfl,.inl rfl,.inl rfl,.inr rfl,.inr rfl,.inl rfl,.inl rfl,.inl rfl,.inl rfl,.inl rfl,trivial⟩ trivial (by rw[sm2];rfl) (bl _) (by simp[XP]) (bo _))
 |2,_ =>
  clear next
  have hp:=hp (by omega);have hq:=hq (by omega);have f1:=Bx g.n p.1;have c13:=Pf g.n p (by omega) (by omega) (by omega);have c14:=TO g.n (by unfold rm;omega);have TEl:=Pf g.n.opp q (by rw[nG];omega) (by omega) (by omega);have fb:∀ (n:V2) (x:Rat×Rat),vb n≤40→qb x.1≤1500000→qb x.2≤1500000→vb (ZF n x)≤3000200:=fun n x h1 h2 h3=>by
   have:=Bx n x.1;have:=Bx n.F' x.2;have:=AJ n;have:=KW (n.scale x.1) (n.F'.scale x.2);show vb ((n.scale x.1).add (n.F'.scale x.2))≤3000200;omega
  have fb1:=fb g.n p g3 p1 p2;have fb2:=fb g.n.opp q (by rw[nG];exact g3) p3 p4;obtain⟨F,eF⟩:∃F,F=ZF g.n p:=⟨_,rfl⟩
  obtain⟨H,eH⟩:∃F,F=ZF g.n.opp q:=⟨_,rfl⟩
  rw[←eF]at c13 fb1;rw[←eH]at TEl fb2;refine XI 50 ?_;simp(disch:=omega)only[hP,hF,gf,bf,gP,bP,JN,qA,qC,↓Xc,wG,seval];refine X0 c13 (X1 _) ?_;simp(disch:=omega)only[hP,hF,gf,bf,vA,vC,qC,↓Xc,wG,seval];refine X0 c14 (X1 _) ?_;simp(disch:=omega)only[hP,hF,gf,bf,vA,vC,qC,↓Xc,wG,seval];refine X0 TEl (X1 _) ?_;simp(disch:=omega)only[hP,hF,gf,bf,vA,vC,qC,↓Xc,wG,seval];refine d_ ?_ (Xz 4 rfl);refine d_ ?_ (Xz 5 rfl);refine d_ ?_ (XK 12 rfl rfl);refine d_ ?_ (XK 13 rfl rfl);refine Xk ?_;have t1:=J4 g.p b.c;have t2:=J4 g.q b.c;simp(disch:=omega)only[ZAt,ZDJ,hP,hF,gf,bf,vA,vC,qC,↓Xc,wG,seval];refine X0 (QS g.p b.c) (X1 _) ?_;simp(disch:=omega)only[gf,bf,vA,vC,qC,↓Xc,wG,seval];refine X0 (K4 (g.p.sub b.c) F) (X1 _) ?_;simp(disch:=omega)only[gf,bf,qA,qC,↓Xc,wG,seval];refine X0 (QS g.q b.c) (X1 _) ?_;simp(disch:=omega)only[gf,bf,vA,vC,qC,↓Xc,wG,seval];refine X0 (K4 (g.q.sub b.c) H) (X1 _) ?_;simp(disch:=omega)only[gf,bf,qA,qC,↓Xc,wG,seval];have r1:=K1 (g.p.sub b.c) F;have r2:=K1 (g.q.sub b.c) H;refine X0 (QT (Xq (g.p.sub b.c) F) (Xq (g.q.sub b.c) H)) (X1 _) ?_;simp(disch:=omega)only[gf,bf,qA,qC,↓Xc,wG,seval];refine X0 (Qm k b.TAD) (X1 _) ?_;simp(disch:=omega)only[gf,bf,qA,qC,↓Xc,wG,seval];have q2:qb (sm 2)≤3200000:=by rw[sm2];have:=KE (sm 1) (q.1*Qj g.n);omega
  refine X0 (J2 (sm 2) b.TAB) (X1 _) ?_;simp(disch:=omega)only[Kt,↓Xc,wG,seval];have es:sm 2=0+p.1*Qj g.n+q.1*Qj g.n:=by rw[sm2,sm1,sm0]
  refine⟨fun h6=>?_,fun h6=>?_⟩
  ·refine X0 (QR F H) (X1 _) ?_
   simp(disch:=omega)only[h6,vA,vC,qC,↓Xc,wG,seval];have w:=QB false;have f3:=KW F H;have f4:=Qa k b.TAD;have f5:=KE (Xq (g.p.sub b.c) F) (Xq (g.q.sub b.c) H);have f6:vb ⟨0,k*b.TAD⟩≤2000000:=Nat.max_le.2 ⟨m_ AX (by omega),(show qb (k*b.TAD)≤2000000 by omega)⟩;refine X0 (Gu (F.add H) ⟨0,k*b.TAD⟩ (by unfold vm;omega) (by unfold vm;omega)) ⟨U_ _,JR ⟨w.1,w.2.1,w.2.2.1,w.2.2.2.1,X1 _⟩,trivial⟩ ?_;simp(disch:=omega)only[h6,↓Xc,wG,seval];refine⟨fun h7=>?_,fun h7=>?_⟩
   ·refine X0 (Q8 (Xq (g.p.sub b.c) F+Xq (g.q.sub b.c) H)) (X1 _) ?_
    simp(disch:=omega)only[h6,h7,↓Xc,wG,seval];exact Xn (v:=.bool (decide ((Xq (g.p.sub b.c) F+Xq (g.q.sub b.c) H).num.sign=0))) rfl rfl (X5 _) (by
     rw[hD];refine y_ ZAX (decide_eq_decide.2 ?_);rw[BU];constructor
     ·intro h8
      exact⟨ZAf.1 h,ZAf.1 h2,hp,hq,by rw[←es];exact h6,by rw[←eF,←eH];exact h7,by unfold UB;rw[←eF,←eH];exact h8⟩
     ·intro h8
      have:=h8.2.2.2.2.2.2;unfold UB at this;rwa[←eF,←eH]at this)
   ·exact Xn (v:=.bool false) rfl rfl (X5 _) (by rw[no fun ho=>h7 (by rw[eF,eH];exact ho.2.2.2.2.2.1)])
  ·exact Xn (v:=.bool false) rfl rfl (X5 _) (by rw[no fun ho=>h6 (by rw[es];exact ho.2.2.2.2.1)])
 |i+3,h=>omega
end
end Go.Ab.N
