/- Contracts of functions, for every argument that fits. -/
import Derived.Test.YtcmfnmceomhgcaaGreatC9
import Derived.Test.YtcmfnmceomhgcaaGreatC6
set_option linter.unusedSimpArgs false
set_option linter.unusedVariables false
open Go.Ab.AS renaming start→P',put→ZAm
open Go.Ab.AV renaming bool→ZAf
open List renaming map_nil→ZB3,forall_mem_cons→ZCY,flatMap_cons→ZCp,flatMap_nil→ZCt
open Nat renaming lt_or_ge→ZDk
open Rat renaming divInt→O_,mul_eq_zero→ZA5
namespace Go.Ab.N
open Go Go.RowKit Go.Proofs
theorem ZBA:type_of%@Rat.not_le:=@Rat.not_le
noncomputable section
set_option maxRecDepth 10000
set_option maxHeartbeats 4000000
open Classical
def F8:List AV:=[.bool false,.sl 0 0 (fun _=>.any) false,.bool false,.sl 0 0 (fun _=>.any) false]
theorem N2 (b:BB)(g:GG)(h1:vb b.c≤1400)(h2:vb g.p≤1400)(h3:vb g.q≤1400)(h4:vb g.n≤1400):Fn Tryz.prog 84 [bA b,gA g] (P6 5 (Js b g) TAN):=by
 obtain⟨R,hR⟩:∃R,R=P6 5 (Js b g) TAN:=⟨_,rfl⟩
 have sR:A_ R:=hR▸BM _ _ _;have c1:=D3 1 1 ⟨by omega,by omega⟩ ⟨by omega,by omega⟩;rw[show O_ 1 1=1 by decide +kernel]at c1;have cm:=D3 (-1) 1 ⟨by omega,by omega⟩ ⟨by omega,by omega⟩;rw[show O_ (-1) 1 = -1 by decide +kernel]at cm;have c16:=D3 16 1 ⟨by omega,by omega⟩ ⟨by omega,by omega⟩;rw[show O_ 16 1=16 by decide +kernel]at c16;have cr:=Z6 g.E_;have cq:=SO g.n;have cp:=Bx g.p b.c (by unfold rm;omega) (by unfold rm;omega);have cs:=Bx g.q b.c (by unfold rm;omega) (by unfold rm;omega);have cl:=ME g.n (by unfold rm;omega);rw[←hR];refine y_ (fn:=Tryz.f84) Tryz.call84 Tryz.func84 rfl mixed 18 [49,50,51] [2,3005,4,16,17007,18,20,21013,21,22016,22,23017] [16,20,21,22] (by kernel_rfl) (L' rfl) (KS (Jz b) (J2 g)) (XF 10 ?_);simp(disch:=omega)only[P',bA,gA,J4,QZ,Xo,↓Xd,wG,seval];refine e_ (s':=⟨18,[49,50,51],[.any,.any,.ref 0 0 0,.ref 1 0 0,.ref 2 0 0,.any,.any,.any,.any,.any,.any,.any,.any,.any,.any,.any,.any,.any],[],[.row 0 20 (Xf (bC b)),.row 0 32 (Xf (gC g)),.row 0 3 (Xf [I 0,.sl 0 0 (fun _=>.any) true,.sl 0 0 (fun _=>.any) true])]⟩) ?_ (Xh rfl (by simp[Xm]) trivial (by rw[J4,QZ];rfl));refine e_ ?_ (XB 0 rfl);refine e_ ?_ (XB 1 rfl);refine e_ ?_ (XH 2 rfl rfl (by omega));refine e_ ?_ (XH 3 rfl rfl (by omega));refine e_ (s':=⟨18,[49,50,51],[.any,.any,bP b,gP g,.ref 2 0 0,.any,.any,.any,.any,.any,.any,.any,.any,.any,.any,.any,.any,.any],[],[.con 0 20 (Xf (bC b)),.con 0 32 (Xf (gC g)),.row 0 3 (Xf [I 0,.sl 0 0 (fun _=>.any) true,.sl 0 0 (fun _=>.any) true])]⟩) ?_ (Xh rfl (by simp[ZAm,Xm,bP,gP]) trivial rfl);refine XF 15 ?_;simp(disch:=omega)only[↓Xd,wG,seval];refine X2 c1 rfl ?_;simp(disch:=omega)only[qA,qC,↓Xd,wG,seval];have w0:=Jj false;have hz':∀ (H:List AO) (j:Nat),j<4→Ko H (Xf F8 j) (Xf (qC 0) j):=fun H j hj=>by
  match j,hj with
  |0,_=>exact XI w0.1
  |1,_=>exact XI w0.2.1
  |2,_=>exact XI w0.2.2.1
  |3,_=>exact XI w0.2.2.2.1
  |j+4,h=>omega
 refine e_ (s':=⟨18,[49,50,51],[.any,.any,bP b,gP g,.ref 2 0 0,.ref 3 0 0,.ref 4 0 0,.any,.any,.any,.any,.any,.any,.any,.any,.any,.any,.any],[],[.con 0 20 (Xf (bC b)),.con 0 32 (Xf (gC g)),.row 0 3 (Xf [I 0,.sl 0 0 (fun _=>.any) true,.sl 0 0 (fun _=>.any) true]),.row 0 4 (Xf F8),.row 0 4 (Xf (qC 1))]⟩) ?_ (Xh rfl (by simp[Xm]) trivial (by rfl));refine e_ ?_ (Qh 3 (Xf (qC 0)) rfl (hz' _));refine e_ ?_ (XB 3 rfl);refine e_ ?_ (XB 4 rfl);refine e_ ?_ (XH 5 rfl rfl (by omega));refine e_ ?_ (XH 6 rfl rfl (by omega));refine e_ (s':=⟨18,[49,50,51],[.any,.any,bP b,gP g,.ref 2 0 0,Jo 0,Jo 1,.any,.any,.any,.any,.any,.any,.any,.any,.any,.any,.any],[],[.con 0 20 (Xf (bC b)),.con 0 32 (Xf (gC g)),.row 0 3 (Xf [I 0,.sl 0 0 (fun _=>.any) true,.sl 0 0 (fun _=>.any) true]),.con 0 4 (Xf (qC 0)),.con 0 4 (Xf (qC 1))]⟩) ?_ (Xh rfl (by simp[ZAm,Xm,Jo]) trivial rfl);refine XF 30 ?_;simp(disch:=omega)only[Jo,qA,qC,↓Xd,wG,seval];refine e_ (s':=⟨18,[49,50,51],[.any,.any,bP b,gP g,.ref 2 0 0,Jo 0,Jo 1,.ref 5 0 0,.ref 6 0 0,.any,.any,.any,.any,.any,.any,.any,.any,.any],[],[.con 0 20 (Xf (bC b)),.con 0 32 (Xf (gC g)),.row 0 3 (Xf [I 0,.sl 0 0 (fun _=>.any) true,.sl 0 0 (fun _=>.any) true]),.con 0 4 (Xf (qC 0)),.con 0 4 (Xf (qC 1)),
  .row 0 3 (Xf [I 5,.sl 0 0 (fun _=>.any) true,.sl 5 20 (Xf (TAN.flatMap qC)) false]),.row 0 1 (Xf [.fn 164 [.ref 5 0 0]])]⟩) ?_ (Xh rfl (by exact⟨.inl rfl,.inl rfl,.inr rfl,.inr rfl,.inr rfl,.inr rfl,.inr rfl,.inr rfl,.inr rfl,.inl rfl,.inl rfl,.inl rfl,.inl rfl,.inl rfl,.inl rfl,.inl rfl,.inl rfl,.inl rfl,trivial⟩) trivial (by rfl))
 refine e_ ?_ (FF (Xv KR 5 KK []));refine e_ ?_ (Qh 5 (Xf [I 5,.osl 7 0 5 0 0,Q0 TAN]) rfl (fun j hj=>by
  match j,hj with
  |0,_=>exact XC _ _
  |1,_=>exact ZU (f:=Xv KR 5 KK []) (n:=0) rfl
  |2,_=>exact XI (JJ rfl (N' _) fun j hj=>by rw[I8 TAN j hj];exact X' _)
  |j+3,h=>omega))
 refine e_ ?_ (XB 6 rfl);refine e_ (s':=⟨18,[49,50,51],[.any,.any,bP b,gP g,.ref 2 0 0,Jo 0,Jo 1,.ref 5 0 0,.ref 6 0 0,.any,.any,.any,.any,.any,.any,.any,.any,.any],[],(Aj b g 0 []).take 8⟩) ?_ (Xh rfl (by simp[Xm]) trivial (by rfl));refine XF 29 ?_;have gf:=gF g;have bf:=bF b;simp(disch:=omega)only[Aj,List.take,Zf,AR,gP,gf,Xo,qA,qC,↓Xd,wG,seval];refine X0 cr (X1 _) ?_;simp(disch:=omega)only[Aj,Zf,AR,gP,gf,Xo,qA,qC,↓Xd,wG,seval];refine X0 cl (X1 _) ?_;simp(disch:=omega)only[Zf,AR,qA,qC,↓Xd,wG,seval];refine X2 cm rfl ?_;simp(disch:=omega)only[Zf,AR,qA,qC,↓Xd,wG,seval];have k6:∀n Ls,(Aj b g n Ls)[6]?=some (.con 0 1 (Xf [.fn 164 [.ref 5 0 0]])):=fun _ _=>rfl
 have k8:∀n Ls,(Aj b g n Ls)[8]?=some (.row 0 4 (Xf (qC (-g.E_)))):=fun _ _=>rfl
 have k9:∀n Ls,(Aj b g n Ls)[9]?=some (.row 0 4 (Xf (qC (QM g.n)))):=fun _ _=>rfl
 have k10:∀n Ls,(Aj b g n Ls)[10]?=some (.row 0 4 (Xf (qC (-1)))):=fun _ _=>rfl
 have k6l:∀n Ls l,(Aj b g n Ls ++ l)[6]?=some (.con 0 1 (Xf [.fn 164 [.ref 5 0 0]])):=fun _ _ _=>rfl
 have k8l:∀n Ls l,(Aj b g n Ls ++ l)[8]?=some (.row 0 4 (Xf (qC (-g.E_)))):=fun _ _ _=>rfl
 have TCe:∀n Ls x l,(Aj b g n Ls ++ x :: l)[11]?=some x:=fun _ _ _ _=>rfl
 have kL:∀n Ls l,(Aj b g n Ls ++ l).length=11+l.length:=fun n Ls l=>by rw[f_];rfl
 have kL0:∀n Ls,(Aj b g n Ls).length=11:=fun n Ls=>rfl
 have TCf:∀n Ls x y l,(Aj b g n Ls ++ x :: l).set 11 y=Aj b g n Ls ++ y :: l:=fun _ _ _ _ _=>rfl
 have kb:=fun n Ls=>Qg (Fe b g n Ls)
 have TEj:∀ (n:Nat) (Ls:List Ln) (r:Rat) (l:List Rat),Ls.length=n→n<1000→l.length≤5→0<l.length →
   G' Tryz.prog 164 [qA r,.sl l.length (l.length*4) (Xl fun i=>l.getD i 0) true,.ref 5 0 0] (Aj b g n Ls) (.tup []) (Aj b g (n+1) (Ls ++ [⟨JS (fun i=>l.getD i 0) l.length,r⟩]))∧K1 (Aj b g n Ls) (Aj b g (n+1) (Ls ++ [⟨JS (fun i=>l.getD i 0) l.length,r⟩])):=fun n Ls r l e1 e2 e3 e4=>by
  have:=th b g n l.length Ls r (fun i=>l.getD i 0) e1 e2 e3 e4 [] (fun o ho=>absurd ho (V'));rw[ZAK,ZAK]at this;exact this
 obtain⟨ln,hln⟩:∃ln:List Rat→Rat→Ln,ln=fun l r=>⟨JS (fun i=>l.getD i 0) l.length,r⟩:=⟨_,rfl⟩
 have TBu:∀ (n:Nat) (Ls:List Ln) (r:Rat) (l:List Rat),Ls.length=n→n<1000→l.length≤5→0<l.length →
   G' Tryz.prog 164 [qA r,.sl l.length (l.length*4) (Xl fun i=>l.getD i 0) true,.ref 5 0 0] (Aj b g n Ls) (.tup []) (Aj b g (n+1) (Ls ++ [ln l r]))∧K1 (Aj b g n Ls) (Aj b g (n+1) (Ls ++ [ln l r])):=fun n Ls r l e1 e2 e3 e4=>by rw[hln];exact TEj n Ls r l e1 e2 e3 e4
 have TCA:∀ (n:Nat) (Ls:List Ln) (r:Rat) (l:List Rat) (x:List AO),(∀o∈x,∀q,XX q o)→Ls.length=n→n<1000→l.length≤5→0<l.length →
   G' Tryz.prog 164 [qA r,.sl l.length (l.length*4) (Xl fun i=>l.getD i 0) true,.ref 5 0 0] (Aj b g n Ls ++ x) (.tup []) (Aj b g (n+1) (Ls ++ [ln l r]) ++ x)∧K1 (Aj b g n Ls ++ x) (Aj b g (n+1) (Ls ++ [ln l r]) ++ x):=fun n Ls r l x hx e1 e2 e3 e4=>by rw[hln];exact th b g n l.length Ls r (fun i=>l.getD i 0) e1 e2 e3 e4 x hx
 refine e_ (s':=⟨18,[49,50,51],[.any,.any,bP b,gP g,.ref 2 0 0,Jo 0,Jo 1,.ref 5 0 0,.ref 6 0 0,.ref 8 0 0,.ref 9 0 0,.ref 10 0 0,.any,.any,.any,.any,.any,.any],[],Aj b g 0 []⟩) ?_ (Xh rfl (by exact⟨.inl rfl,.inl rfl,.inr rfl,.inr rfl,.inr rfl,.inr rfl,.inr rfl,.inr rfl,.inr rfl,.inr rfl,.inr rfl,.inr rfl,.inl rfl,.inl rfl,.inl rfl,.inl rfl,.inl rfl,.inl rfl,trivial⟩) trivial (by rfl));refine Xk ?_;simp(disch:=omega)only[k6,k8,k9,k10,Jo,qA,qC,↓Xd,wG,seval];have s1:=TBu 0 [] (0) [-1] rfl (by omega) (L' rfl) (L' rfl);refine Xz rfl s1.1 s1.2 (kb _ _) ⟨X' _,JO [-1] 1 4 _ rfl rfl rfl,X' _,trivial⟩ ?_;simp(disch:=omega)only[k6,k8,k9,k10,Jo,gP,bP,gf,bf,qA,qC,↓Xd,wG,seval];have s2:=TBu 1 [ln [-1] 0] (0) [0,0,-1] rfl (by omega) (L' rfl) (L' rfl);refine Xz rfl s2.1 s2.2 (kb _ _) ⟨X' _,JO [0,0,-1] 3 12 _ rfl rfl rfl,X' _,trivial⟩ ?_;simp(disch:=omega)only[k6,k8,k9,k10,Jo,gP,bP,gf,bf,qA,qC,↓Xd,wG,seval];have LI:∃LI:Nat→List Ln,LI 0=[ln [-1] 0,ln [0,0,-1] 0]∧LI 1=[ln [-1] 0,ln [0,0,-1] 0,ln [-g.E_,1] 0,ln [0,0,-g.E_,1] 0]∧LI 2=[ln [-1] 0,ln [0,0,-1] 0,ln [-g.E_,1] 0,ln [0,0,-g.E_,1] 0,ln [-g.E_,-1] 0,ln [0,0,-g.E_,-1] 0]:=⟨fun i=>match i with |0=>[ln [-1] 0,ln [0,0,-1] 0] |1=>[ln [-1] 0,ln [0,0,-1] 0,ln [-g.E_,1] 0,ln [0,0,-g.E_,1] 0] |_=>[ln [-1] 0,ln [0,0,-1] 0,ln [-g.E_,1] 0,ln [0,0,-g.E_,1] 0,ln [-g.E_,-1] 0,ln [0,0,-g.E_,-1] 0],rfl,rfl,rfl⟩
 obtain⟨LI,hL0,hL1,hL2⟩:=LI;rw[←hL0];have bl:∀i,J9 11 (([.any,.any,bP b,gP g,.ref 2 0 0,Jo 0,Jo 1,.ref 5 0 0,.ref 6 0 0,.ref 8 0 0,.ref 9 0 0,.ref 10 0 0,.any,.any,.any,.any,.any,.any]:List AV).getD i .any):=fun i=>by
  match i with
  |0=>exact X4 Jm
  |1=>exact X4 Jm
  |2=>exact X4 (XP fun j _=>Xe (KG b) j)
  |3=>exact X4 (XP fun j _=>Xe (Ke g) j)
  |4=>exact QX (by omega)
  |5=>exact X4 (XP fun j _=>Xe (XV 0) j)
  |6=>exact X4 (XP fun j _=>Xe (XV 1) j)
  |7=>exact QX (by omega)
  |8=>exact QX (by omega)
  |9=>exact QX (by omega)
  |10=>exact QX (by omega)
  |11=>exact QX (by omega)
  |12=>exact X4 Jm
  |13=>exact X4 Jm
  |14=>exact X4 Jm
  |15=>exact X4 Jm
  |16=>exact X4 Jm
  |17=>exact X4 Jm
  |i+18=>exact X4 Jm
 have bl2:∀a∈([.any,.any,bP b,gP g,.ref 2 0 0,Jo 0,Jo 1,.ref 5 0 0,.ref 6 0 0,.ref 8 0 0,.ref 9 0 0,.ref 10 0 0,.any,.any,.any,.any,.any,.any]:List AV),J9 11 a:=fun a ha=>by
  obtain⟨i,hi,rfl⟩:=ZAI ha;have:=bl i;rwa[K',U_ hi]at this
 have bs:J9 11 (.sl 2 8 (Xf (qC 1 ++ qC (-1))) true)=True:=K_ (X4 (QF fun j _=>Xe (l:=qC 1 ++ qC (-1)) (by simp[qC,Xc,X5]) j));have cx:∀x:Rat,∀o∈[AO.row 0 4 (Xf (qC x))],∀q,XX q o:=fun x o ho q=>by rw[a_.1 ho];exact Fa _ _ _
 have cxu:∀ (x:Rat) n Ls,QY (Aj b g n Ls ++ [AO.row 0 4 (Xf (qC x))]):=fun x n Ls=>KM (Fe b g n Ls) fun o ho=>by rw[a_.1 ho];simp
 refine Xi (fun i:Nat=>⟨18,[49,50,51],[.any,.any,bP b,gP g,.ref 2 0 0,Jo 0,Jo 1,.ref 5 0 0,.ref 6 0 0,.ref 8 0 0,.ref 9 0 0,.ref 10 0 0,.any,.any,.any,.any,.any,.any],[(49,.sl 2 8 (Xf (qC 1 ++ qC (-1))) true),(50,I 2),(51,I i)],Aj b g (2+2*i) (LI i)⟩) (fun i=>i≤2) (fun i=>2-i) 0 (by omega)
  (Xh rfl ⟨.inl rfl,.inl rfl,.inr rfl,.inr rfl,.inr rfl,.inr rfl,.inr rfl,.inr rfl,.inr rfl,.inr rfl,.inr rfl,.inr rfl,.inl rfl,.inl rfl,.inl rfl,.inl rfl,.inl rfl,.inl rfl,trivial⟩ (by exact⟨.inr rfl,.inr rfl,.inr rfl,trivial⟩) (by rfl)) ?_
 intro i hi next
 match i,hi with
 |0,_ =>
  have nx:=next 1
  refine Xk ?_;simp(disch:=omega)only[k6l,k8l,TCe,kL,kL0,TCf,Jo,gP,bP,qA,qC,P_,↓Xd,wG,seval];have u00:=TCA 2 (LI 0) 0 [-g.E_,1] [.row 0 4 (Xf (qC (1)))] (cx _) (by rw[hL0];rfl) (by omega) (L' rfl) (L' rfl);refine Xz rfl u00.1 u00.2 (Qg (cxu _ _ _)) ⟨X' _,JO [-g.E_,1] 2 8 _ rfl rfl rfl,X' _,trivial⟩ ?_;simp(disch:=omega)only[k6l,k8l,TCe,kL,kL0,TCf,Jo,gP,bP,qA,qC,P_,↓Xd,wG,seval];have u01:=TCA 3 (LI 0 ++ [ln [-g.E_,1] 0]) 0 [0,0,-g.E_,1] [.row 0 4 (Xf (qC (1)))] (cx _) (by rw[hL0];rfl) (by omega) (L' rfl) (L' rfl);refine Xz rfl u01.1 u01.2 (Qg (cxu _ _ _)) ⟨X' _,JO [0,0,-g.E_,1] 4 16 _ rfl rfl rfl,X' _,trivial⟩ ?_;simp(disch:=omega)only[k6l,k8l,TCe,kL,kL0,TCf,Jo,gP,bP,qA,qC,P_,↓Xd,wG,seval];refine nx _ (by omega) (by omega) (XD (m:=11) (p_ _) rfl ⟨.inl rfl,.inl rfl,.inr rfl,.inr rfl,.inr rfl,.inr rfl,.inr rfl,.inr rfl,.inr rfl,.inr rfl,.inr rfl,.inr rfl,.inl rfl,.inl rfl,.inl rfl,.inl rfl,.inl rfl,.inl rfl,trivial⟩ (by exact⟨.inr rfl,.inr rfl,.inr rfl,trivial⟩) (by rw[hL1];simp only[hL0];rfl) bl2 (by simp[XK,bs]) (fun o ho=>GD b g _ _ o ho _ (N' _)))
 |1,_ =>
  have nx:=next 2
  refine Xk ?_;simp(disch:=omega)only[k6l,k8l,TCe,kL,kL0,TCf,Jo,gP,bP,qA,qC,P_,↓Xd,wG,seval];have u10:=TCA 4 (LI 1) 0 [-g.E_,-1] [.row 0 4 (Xf (qC (-1)))] (cx _) (by rw[hL1];rfl) (by omega) (L' rfl) (L' rfl);refine Xz rfl u10.1 u10.2 (Qg (cxu _ _ _)) ⟨X' _,JO [-g.E_,-1] 2 8 _ rfl rfl rfl,X' _,trivial⟩ ?_;simp(disch:=omega)only[k6l,k8l,TCe,kL,kL0,TCf,Jo,gP,bP,qA,qC,P_,↓Xd,wG,seval];have u11:=TCA 5 (LI 1 ++ [ln [-g.E_,-1] 0]) 0 [0,0,-g.E_,-1] [.row 0 4 (Xf (qC (-1)))] (cx _) (by rw[hL1];rfl) (by omega) (L' rfl) (L' rfl);refine Xz rfl u11.1 u11.2 (Qg (cxu _ _ _)) ⟨X' _,JO [0,0,-g.E_,-1] 4 16 _ rfl rfl rfl,X' _,trivial⟩ ?_;simp(disch:=omega)only[k6l,k8l,TCe,kL,kL0,TCf,Jo,gP,bP,qA,qC,P_,↓Xd,wG,seval];refine nx _ (by omega) (by omega) (XD (m:=11) (p_ _) rfl ⟨.inl rfl,.inl rfl,.inr rfl,.inr rfl,.inr rfl,.inr rfl,.inr rfl,.inr rfl,.inr rfl,.inr rfl,.inr rfl,.inr rfl,.inl rfl,.inl rfl,.inl rfl,.inl rfl,.inl rfl,.inl rfl,trivial⟩ (by exact⟨.inr rfl,.inr rfl,.inr rfl,trivial⟩) (by rw[hL2];simp only[hL1];rfl) bl2 (by simp[XK,bs]) (fun o ho=>GD b g _ _ o ho _ (N' _)))
 |2,_ =>
  clear next
  have TFa:∀n Ls x y l,(Aj b g n Ls ++ x :: y :: l)[12]?=some y:=fun _ _ _ _ _=>rfl
  have TFb:∀n Ls x y z l,(Aj b g n Ls ++ x :: y :: z :: l)[13]?=some z:=fun _ _ _ _ _ _=>rfl
  have TFc:∀n Ls x y w l,(Aj b g n Ls ++ x :: y :: l).set 12 w=Aj b g n Ls ++ x :: w :: l:=fun _ _ _ _ _ _=>rfl
  have TFd:∀n Ls x y z w l,(Aj b g n Ls ++ x :: y :: z :: l).set 13 w=Aj b g n Ls ++ x :: y :: w :: l:=fun _ _ _ _ _ _ _=>rfl
  refine XF 144 ?_;simp(disch:=omega)only[k6,k8,k9,k10,Jo,gP,bP,gf,bf,qA,qC,↓Xd,wG,seval];have v0:=TBu 6 (LI 2) (g.force) [QM g.n] (by rw[hL2];rfl) (by omega) (L' rfl) (L' rfl);refine Xz rfl v0.1 v0.2 (kb _ _) ⟨X' _,JO [QM g.n] 1 4 _ rfl rfl rfl,X' _,trivial⟩ ?_;simp(disch:=omega)only[k6,k8,k9,k10,Jo,gP,bP,gf,bf,qA,qC,P_,↓Xd,wG,seval];have v1:=TBu 7 (LI 2 ++ [ln [QM g.n] g.force]) (g.force) [0,0,QM g.n] (by rw[hL2];rfl) (by omega) (L' rfl) (L' rfl);simp only[P_,g_,h_]at v1;refine Xz rfl v1.1 v1.2 (kb _ _) ⟨X' _,JO [0,0,QM g.n] 3 12 _ rfl rfl rfl,X' _,trivial⟩ ?_;simp(disch:=omega)only[k6,k8,k9,k10,Jo,gP,bP,gf,bf,qA,qC,P_,↓Xd,wG,seval];have v2:=TBu 8 (LI 2 ++ [ln [QM g.n] g.force,ln [0,0,QM g.n] g.force]) (b.TAB) [QM g.n,0,QM g.n] (by rw[hL2];rfl) (by omega) (L' rfl) (L' rfl);simp only[P_,g_,h_]at v2;refine Xz rfl v2.1 v2.2 (kb _ _) ⟨X' _,JO [QM g.n,0,QM g.n] 3 12 _ rfl rfl rfl,X' _,trivial⟩ ?_;simp(disch:=omega)only[k6,k8,k9,k10,Jo,gP,bP,gf,bf,qA,qC,P_,↓Xd,wG,seval];refine X2 c16 rfl ?_;simp(disch:=omega)only[k6,k8,k9,k10,Jo,gP,bP,gf,bf,qA,qC,↓Xd,wG,seval];have v3:=TBu 9 (LI 2 ++ [ln [QM g.n] g.force,ln [0,0,QM g.n] g.force,ln [QM g.n,0,QM g.n] b.TAB]) (16) [0,0,0,0,1] (by rw[hL2];rfl) (by omega) (L' rfl) (L' rfl);simp only[P_,g_,h_]at v3;refine Xz rfl v3.1 v3.2 (kb _ _) ⟨X' _,JO [0,0,0,0,1] 5 20 _ rfl rfl rfl,X' _,trivial⟩ ?_;simp(disch:=omega)only[k6,k8,k9,k10,Jo,gP,bP,gf,bf,qA,qC,P_,↓Xd,wG,seval];have v4:=TBu 10 (LI 2 ++ [ln [QM g.n] g.force,ln [0,0,QM g.n] g.force,ln [QM g.n,0,QM g.n] b.TAB,ln [0,0,0,0,1] 16]) (0) [0,0,0,0,-1] (by rw[hL2];rfl) (by omega) (L' rfl) (L' rfl);simp only[P_,g_,h_]at v4;refine Xz rfl v4.1 v4.2 (kb _ _) ⟨X' _,JO [0,0,0,0,-1] 5 20 _ rfl rfl rfl,X' _,trivial⟩ ?_;simp(disch:=omega)only[k6,k8,k9,k10,Jo,gP,bP,gf,bf,qA,qC,P_,↓Xd,wG,seval];refine X0 cq (X1 _) ?_;simp(disch:=omega)only[k6,k8,k9,k10,Jo,gP,bP,gf,bf,qA,qC,vC,vA,↓Xd,wG,seval];refine X0 cp (X1 _) ?_;simp(disch:=omega)only[k6,k8,k9,k10,Jo,gP,bP,gf,bf,qA,qC,vC,vA,↓Xd,wG,seval];refine X0 cs (X1 _) ?_;simp(disch:=omega)only[k6,k8,k9,k10,Jo,gP,bP,gf,bf,qA,qC,vC,vA,kL0,TCe,TFa,TFb,TCf,TFc,TFd,↓Xd,wG,seval];obtain⟨LL,hLL⟩:∃LL,LL=LI 2 ++ [ln [QM g.n] g.force,ln [0,0,QM g.n] g.force,ln [QM g.n,0,QM g.n] b.TAB,ln [0,0,0,0,1] 16,ln [0,0,0,0,-1] 0]:=⟨_,rfl⟩
  have hLn:LL.length=11:=by rw[hLL,hL2];rfl
  rw[←hLL];obtain⟨tt,htt⟩:∃t,t=g.n.F':=⟨_,rfl⟩
  obtain⟨tp,htp⟩:∃t,t=g.p.sub b.c:=⟨_,rfl⟩
  obtain⟨tq,htq⟩:∃t,t=g.q.sub b.c:=⟨_,rfl⟩
  rw[←htt,←htp,←htq];refine e_ (s':=⟨18,[49,50,51],[.any,.any,bP b,gP g,.ref 2 0 0,Jo 0,Jo 1,.ref 5 0 0,.ref 6 0 0,.any,.any,.any,.any,.any,.ref 11 0 0,.ref 12 0 0,.ref 13 0 0,.any],[],Aj b g 11 LL ++ [.row 0 8 (Xf (vC tt)),.row 0 8 (Xf (vC tp)),.row 0 8 (Xf (vC tq))]⟩) ?_ (Xh rfl (by exact⟨.inl rfl,.inl rfl,.inr rfl,.inr rfl,.inr rfl,.inr rfl,.inr rfl,.inr rfl,.inr rfl,.inl rfl,.inl rfl,.inl rfl,.inl rfl,.inl rfl,.inr rfl,.inr rfl,.inr rfl,.inl rfl,trivial⟩) trivial (by rfl));refine e_ ?_ (XB 11 rfl);refine e_ ?_ (XB 12 rfl);refine e_ ?_ (XB 13 rfl);refine e_ ?_ (XH 14 rfl rfl (by omega));refine e_ ?_ (XH 15 rfl rfl (by omega));refine e_ ?_ (XH 16 rfl rfl (by omega));refine e_ (s':=⟨18,[49,50,51],[.any,.any,bP b,gP g,.ref 2 0 0,Jo 0,Jo 1,.ref 5 0 0,.ref 6 0 0,.any,.any,.any,.any,.any,.ptr 8 (Xf (vC tt)) 0,.ptr 8 (Xf (vC tp)) 0,.ptr 8 (Xf (vC tq)) 0,.any],[],Aj b g 11 LL ++ [.con 0 8 (Xf (vC tt)),.con 0 8 (Xf (vC tp)),.con 0 8 (Xf (vC tq))]⟩) ?_ (Xh rfl (by simp[ZAm,Xm,Jo]) trivial rfl);obtain⟨X3,hX3⟩:∃X:List AO,X=[.con 0 8 (Xf (vC tt)),.con 0 8 (Xf (vC tp)),.con 0 8 (Xf (vC tq))]:=⟨_,rfl⟩
  have xb:∀o∈X3,(∀q,XX q o)∧o≠.D_:=fun o ho=>by
   rw[hX3]at ho;simp only[b_,V',or_false]at ho;rcases ho with rfl |rfl |rfl <;> exact⟨fun q j _=>X4 (Xe (by simp[vC,Xc,X5]) j),by simp⟩
  have xl:∀n Ls,(Aj b g n Ls ++ X3).length=14:=fun n Ls=>by rw[f_,hX3];rfl
  have kx:∀n Ls,QY (Aj b g n Ls ++ X3):=fun n Ls=>KM (Fe b g n Ls) fun o ho=>(xb o ho).2
  have k6x:∀n Ls,(Aj b g n Ls ++ X3)[6]?=some (.con 0 1 (Xf [.fn 164 [.ref 5 0 0]])):=fun _ _=>rfl
  rw[←hX3];have eq1:∀ (n:Nat) (Ls:List Ln) (l:List Rat),Ls.length=n→n<1000→l.length≤5→0<l.length →
    G' Tryz.prog 167 [.sl l.length (l.length*4) (Xl fun i=>l.getD i 0) true,.ref 6 0 0,Jo 0] (Aj b g n Ls ++ X3) (.tup []) (Aj b g (n+2) (Ls ++ [ln l 0] ++ [ln (l.map fun r=>-r) 0]) ++ X3)∧K1 (Aj b g n Ls ++ X3) (Aj b g (n+2) (Ls ++ [ln l 0] ++ [ln (l.map fun r=>-r) 0]) ++ X3):=fun n Ls l e1 e2 e3 e4=>by
   have:=vw b g n l.length Ls (fun i=>l.getD i 0) e1 e2 e3 e4 X3 xb;have ep:ln (l.map fun r=>-r) 0=⟨JS (fun i=>-l.getD i 0) l.length,0⟩:=by
    rw[hln];simp only[ZBp];congr 1;unfold JS;refine ZAL fun i _=>?_
    by_cases h:i<l.length
    ·simp[h]
    ·simp[h]
   rw[ep,hln];exact this
  refine Xk ?_;simp(disch:=omega)only[k6x,Jo,gP,bP,gf,bf,qA,qC,vC,vA,xl,↓Xd,wG,seval];refine X0 (Z6 g.n.x) (X1 _) ?_;simp(disch:=omega)only[k6x,Jo,gP,bP,gf,bf,qA,qC,vC,vA,xl,↓Xd,wG,seval];refine X0 (Z6 tt.x) (X1 _) ?_;simp(disch:=omega)only[k6x,Jo,gP,bP,gf,bf,qA,qC,vC,vA,xl,↓Xd,wG,seval];have e1:=eq1 11 LL [g.n.x,tt.x,-g.n.x,-tt.x] hLn (by omega) (L' rfl) (L' rfl);refine Xz rfl e1.1 e1.2 (Qg (kx _ _)) ⟨JO [g.n.x,tt.x,-g.n.x,-tt.x] 4 16 _ rfl rfl rfl,X' _,X' _,trivial⟩ ?_;simp(disch:=omega)only[k6x,Jo,gP,bP,gf,bf,qA,qC,vC,vA,xl,↓Xd,wG,seval];refine X0 (Z6 g.n.y) (X1 _) ?_;simp(disch:=omega)only[k6x,Jo,gP,bP,gf,bf,qA,qC,vC,vA,xl,↓Xd,wG,seval];refine X0 (Z6 tt.y) (X1 _) ?_;simp(disch:=omega)only[k6x,Jo,gP,bP,gf,bf,qA,qC,vC,vA,xl,↓Xd,wG,seval];refine X0 (Z6 b.TAJ) (X1 _) ?_;simp(disch:=omega)only[k6x,Jo,gP,bP,gf,bf,qA,qC,vC,vA,xl,↓Xd,wG,seval];have e2:=eq1 13 (LL ++ [ln [g.n.x,tt.x,-g.n.x,-tt.x] 0] ++ [ln [-g.n.x,-tt.x,- -g.n.x,- -tt.x] 0]) [g.n.y,tt.y,-g.n.y,-tt.y,-b.TAJ] (by simp[hLn]) (by omega) (L' rfl) (L' rfl);refine Xz rfl e2.1 e2.2 (Qg (kx _ _)) ⟨JO [g.n.y,tt.y,-g.n.y,-tt.y,-b.TAJ] 5 20 _ rfl rfl rfl,X' _,X' _,trivial⟩ ?_;simp(disch:=omega)only[k6x,Jo,gP,bP,gf,bf,qA,qC,vC,vA,xl,↓Xd,wG,seval];have bt:vb tt≤1400:=by rw[htt,Cc];exact h4
  have bp:vb tp≤2801:=by have:=J3 g.p b.c;rw[htp];omega
  have bq:vb tq≤2801:=by have:=J3 g.q b.c;rw[htq];omega
  have w1:=Bj tp g.n (by unfold vm;omega) (by unfold vm;omega);have w2:=Bj tp tt (by unfold vm;omega) (by unfold vm;omega);have w3:=Bj tq g.n (by unfold vm;omega) (by unfold vm;omega);have w4:=Bj tq tt (by unfold vm;omega) (by unfold vm;omega);refine X0 w1 (X1 _) ?_;simp(disch:=omega)only[k6x,Jo,gP,bP,gf,bf,qA,qC,vC,vA,xl,↓Xd,wG,seval];refine X0 w2 (X1 _) ?_;simp(disch:=omega)only[k6x,Jo,gP,bP,gf,bf,qA,qC,vC,vA,xl,↓Xd,wG,seval];refine X0 w3 (X1 _) ?_;simp(disch:=omega)only[k6x,Jo,gP,bP,gf,bf,qA,qC,vC,vA,xl,↓Xd,wG,seval];refine X0 (Z6 _) (X1 _) ?_;simp(disch:=omega)only[k6x,Jo,gP,bP,gf,bf,qA,qC,vC,vA,xl,↓Xd,wG,seval];refine X0 w4 (X1 _) ?_;simp(disch:=omega)only[k6x,Jo,gP,bP,gf,bf,qA,qC,vC,vA,xl,↓Xd,wG,seval];refine X0 (Z6 _) (X1 _) ?_;simp(disch:=omega)only[k6x,Jo,gP,bP,gf,bf,qA,qC,vC,vA,xl,↓Xd,wG,seval];have e3:=eq1 15 (LL ++ [ln [g.n.x,tt.x,-g.n.x,-tt.x] 0] ++ [ln [-g.n.x,-tt.x,- -g.n.x,- -tt.x] 0] ++ [ln [g.n.y,tt.y,-g.n.y,-tt.y,-b.TAJ] 0] ++ [ln [-g.n.y,-tt.y,- -g.n.y,- -tt.y,- -b.TAJ] 0]) [Xr tp g.n,Xr tp tt,-Xr tq g.n,-Xr tq tt] (by simp[hLn]) (by omega) (L' rfl) (L' rfl);refine Xz rfl e3.1 e3.2 (Qg (kx _ _)) ⟨JO [Xr tp g.n,Xr tp tt,-Xr tq g.n,-Xr tq tt] 4 16 _ rfl rfl rfl,X' _,X' _,trivial⟩ ?_;have k2x:∀n Ls,(Aj b g n Ls ++ X3)[2]?=some (.row 0 3 (Xf [I 0,.sl 0 0 (fun _=>.any) true,.sl 0 0 (fun _=>.any) true])):=fun _ _=>rfl
  have k5x:∀n Ls,(Aj b g n Ls ++ X3)[5]?=some (Zf 7 n TAN):=fun _ _=>rfl
  simp(disch:=omega)only[k6x,k2x,k5x,Zf,Jo,gP,bP,gf,bf,qA,qC,vC,vA,xl,↓Xd,wG,seval];refine⟨rfl,?_⟩;have hF:LL ++ [ln [g.n.x,tt.x,-g.n.x,-tt.x] 0] ++ [ln [-g.n.x,-tt.x,- -g.n.x,- -tt.x] 0] ++ [ln [g.n.y,tt.y,-g.n.y,-tt.y,-b.TAJ] 0] ++ [ln [-g.n.y,-tt.y,- -g.n.y,- -tt.y,- -b.TAJ] 0] ++ [ln [Xr tp g.n,Xr tp tt,-Xr tq g.n,-Xr tq tt] 0] ++ [ln [-Xr tp g.n,-Xr tp tt,- -Xr tq g.n,- -Xr tq tt] 0]=Js b g:=by
   rw[hLL,hL2,hln,htt,htp,htq];rfl
  refine Cv (L:=[I 5,.osl 7 17 5 0 17,Q0 TAN]) rfl kT rfl rfl rfl ?_;rw[hR];refine Du ⟨XU (X9 _) rfl,?_,XU (Xn _) rfl,trivial⟩;refine Kc (m:=85) (M:=85) (ver:=17) (f:=Xv KR 5 KK (Js b g)) (.inl ?_) (by omega) (by omega) fun j hj=>?_
  ·rw[←hF];rfl
  ·rw[x_]
   exact(Xe (KW _) _).TBH _
 |i+3,h=>omega
def RE:RQ:=RQ.of 0
def tJ (l:List RQ):AV:=g8 RQ.L 4 RE l
theorem CS (l:List RQ):tJ l=.sl l.length (l.length*4) (Xv RQ.L 4 RE l) false:=C_ rfl
theorem TW (x:RQ):∀a∈x.L,A_ a:=by simp[RQ.L,Xc,X5]
theorem ES (l:List RQ):A_ (tJ l):=KZ fun a x hx=>TW a x hx
theorem zP (l:List RQ)(i:Nat):Xv RQ.L 4 RE l (i*4)=.bool (l.getD i RE).pn∧Xv RQ.L 4 RE l (i*4+1)=X8 (l.getD i RE).pd∧Xv RQ.L 4 RE l (i*4+2)=.bool (l.getD i RE).qn∧Xv RQ.L 4 RE l (i*4+3)=X8 (l.getD i RE).qd:=by
 refine⟨?_,?_,?_,?_⟩
 ·rw[Kg _ _ _ _ _ (by omega)];rfl
 all_goals rw[JE _ _ _ _ _ _ (by omega)];rfl
theorem dk (s:List RQ)(f:FuncId)(G_:List AV)(p:RQ→Bool)(hl:s.length<1000000)(hc:∀ a∈G_,A_ a)(hp:∀x∈s,Fn Tryz.prog f ([x.A] ++ G_) (.bool (p x))) :
  Fn Tryz.prog 205 [tJ s,.fn f G_] (I (Lf p s)):=by
 refine y_ (fn:=Tryz.f205) Tryz.call205 Tryz.func205 rfl mixed 6 [6,7,8] [] [] (by kernel_rfl) (L' rfl) (KS (ES s) (Kd hc)) (Xk ?_);simp(disch:=omega)only[P',CS,↓Xd,wG,seval];refine Xi (fun j:Nat=>⟨6,[6,7,8],[tJ s,.fn f G_,.any,.any,.any,.any],[(6,tJ s),(7,I s.length),(8,I j)],[]⟩) (fun j=>j≤s.length∧∀i,i<j→p (s.getD i RE)=false) (fun j=>s.length-j) 0 ⟨by omega,by omega⟩
  (Xh rfl (by simp[Xm,I,CS]) (by simp[Xu,XJ,I,CS]) rfl) ?_
 rintro j ⟨hj,hno⟩ next
 by_cases h:j<s.length
 ·obtain⟨l1,l2,l3,l4⟩:=zP s j
  have c1:=hp _ (Q9 RE h);refine Xk ?_;simp(disch:=omega)only[CS,l1,l2,l3,l4,↓Xd,wG,seval];refine X0 c1 (X1 _) ?_;simp(disch:=omega)only[↓Xd,wG,seval];refine Qs (fun ht=>Xp (v:=I j) rfl rfl (X9 _) ?_) (fun hf=>next (j+1) _ ⟨by omega,fun i hi=>?_⟩ (by omega) (Xh rfl ?_ ?_ rfl))
  ·rw[MM RE h ht hno]
  ·by_cases e:i=j
   ·rw[e];exact hf
   ·exact hno i (by omega)
  ·simp[Xm,I,CS]
  ·simp[Xu,XJ,I,CS]
 ·obtain rfl:j=s.length:=by omega
  refine Xk ?_;simp(disch:=omega)only[CS,↓Xd,wG,seval];exact Xp (v:=I (-1)) rfl rfl (X9 _) (by rw[Ic RE fun i hi=>hno i hi])
theorem PW (s:List RQ)(f:FuncId)(G_:List AV)(p:RQ→Bool)(hl:s.length<1000000)(hc:∀ a∈G_,A_ a)(hp:∀x∈s,Fn Tryz.prog f ([x.A] ++ G_) (.bool (p x))) :
  Fn Tryz.prog 177 [tJ s,.fn f G_] (.bool (s.any p)):=by
 refine y_ (fn:=Tryz.f177) Tryz.call177 Tryz.func177 rfl mixed 4 [] [] [] (by kernel_rfl) (L' rfl) (KS (ES s) (Kd hc)) (Xk ?_);simp(disch:=omega)only[P',↓Xd,wG,seval];refine X0 (dk s f G_ p hl hc hp) (X1 _) ?_;simp(disch:=omega)only[↓Xd,wG,seval];exact Xp (v:=.bool (decide (0≤Lf p s))) rfl rfl (X5 _) (by rw[ML])
theorem Vw (x:RQ)(hx:x.sz<1000000000):Fn Tryz.prog 178 [x.A] (.bool (!decide x.ok)):=by
 refine y_ (fn:=Tryz.f178) Tryz.call178 Tryz.func178 rfl mixed 2 [] [] [] (by kernel_rfl) (L' rfl) (fun a ha=>a_.1 ha▸Cy x) (Xk ?_);simp(disch:=omega)only[P',RQ.A,RQ.L,↓Xd,wG,seval];refine X0 (FE x hx) (X1 _) ?_;simp(disch:=omega)only[↓Xd,wG,seval];exact Xp rfl rfl (X5 _) rfl
theorem cZ (s:List RQ)(hl:s.length<1000000)(hx:∀x∈s,x.sz<1000000000):Fn Tryz.prog 98 [tJ s] (.bool (s.all fun x=>decide x.ok)):=by
 refine y_ (fn:=Tryz.f98) Tryz.call98 Tryz.func98 rfl mixed 2 [] [] [] (by kernel_rfl) (L' rfl) (fun a ha=>a_.1 ha▸ES s) (Xk ?_);simp(disch:=omega)only[P',↓Xd,wG,seval];refine X0 (PW s 178 [] (fun x=>!decide x.ok) hl (by simp) fun x h=>Vw x (hx x h)) (X1 _) ?_;simp(disch:=omega)only[↓Xd,wG,seval];exact Xp rfl rfl (X5 _) (t_ ZAf (by rw[List.not_any_eq_all_not];simp))
theorem tC (r:Rat):(RQ.of r).ok:=⟨r,rfl⟩
theorem tQ (r:Rat)(h:qb r≤rm):(RQ.of r).sz<1000000000:=by
 have:=RQ.TBV r;unfold rm at h;omega
theorem GW (l:List Rat)(hl:l.length<1000000)(hx:∀r∈l,qb r≤rm):Fn Tryz.prog 98 [Q0 l] (.bool true):=by
 have:=cZ (l.map RQ.of) (by simpa using hl) (fun x h=>by obtain⟨r,hr,rfl⟩:=ZA3.1 h;exact tQ r (hx r hr));have e:tJ (l.map RQ.of)=Q0 l:=by
  rw[CS,Xt,ZBp];congr 1;funext j;unfold Xv Xl;rw[show(l.map RQ.of).getD (j/4) RE=RQ.of (l.getD (j/4) 0)by rw[RE,K',ZAi,K',Option.getD_map]];rfl
 rw[e]at this;have e2:((l.map RQ.of).all fun x=>decide x.ok)=true:=by
  rw[ZA1];intro x h;obtain⟨r,hr,rfl⟩:=ZA3.1 h;exact Y' (tC r)
 rw[e2]at this;exact this
theorem ZE (r:Rat):(0<r.num.sign)=(0<r):=propext (by rw[Int.sign_pos_iff,Rat.lt_iff];simp)
theorem ZD (r:Rat):(0≤r.num.sign)=(0≤r):=propext (by rw[Int.sign_nonneg_iff,Rat.num_nonneg])
def AQ (f r:Rat):Bool:=decide (0<f∧0≤r∧r≤4)
theorem FJ (l:List Rat)(n m:Nat)(L:List AV)(hL:L=l.flatMap qC)(hn:n=l.length)(hm:m=l.length*4):B_ (.sl n m (Xf L) true) (Q0 l):=by
 subst hn hm hL;rw[Xt];exact JJ rfl (N' _) fun j hj=>by rw[I8 l j hj];exact X' _
theorem MD (f r:Rat)(h1:qb f≤rm)(h2:qb r≤rm):Fn Tryz.prog 113 [qA f,qA r] (.bool (AQ f r)):=by
 have c1:=GW [f,r] (by simp) (by simp[h1,h2]);have c2:=Qv f;have c3:=Qv r;have c4:=D3 4 1 ⟨by omega,by omega⟩ ⟨by omega,by omega⟩;rw[show O_ 4 1=4 by decide +kernel]at c4;have c5:=J6 r 4 h2 (by decide +kernel);refine y_ (fn:=Tryz.f113) Tryz.call113 Tryz.func113 rfl mixed 4 [] [] [] (by kernel_rfl) (L' rfl) (KS (Xa f) (Xa r)) (Xk ?_);simp(disch:=omega)only[P',qA,qC,↓Xd,wG,seval];refine X0 c1 ⟨FJ [f,r] _ _ _ rfl rfl rfl,trivial⟩ ?_;simp(disch:=omega)only[↓Xd,wG,seval];refine X0 c2 (X1 _) ?_;simp(disch:=omega)only[ZE,ZD,↓Xd,wG,seval];refine⟨fun h=>?_,fun h=>?_⟩
 ·refine X0 c3 (X1 _) ?_
  simp(disch:=omega)only[h,ZE,ZD,↓Xd,wG,seval];refine⟨fun h2=>?_,fun h2=>?_⟩
  ·refine X2 c4 rfl ?_
   simp(disch:=omega)only[h,h2,qA,qC,↓Xd,wG,seval];refine X0 c5 (X1 _) ?_;simp(disch:=omega)only[h,h2,↓Xd,wG,seval];exact Xp (v:=.bool (decide (AJ r 4≤0))) rfl rfl (X5 _) (t_ ZAf (by unfold AQ;exact decide_eq_decide.2 (by rw[KL];simp[h,h2])))
  ·exact Xp (v:=.bool false) rfl rfl (X5 _) (by simp[AQ,h,h2])
 ·exact Xp (v:=.bool false) rfl rfl (X5 _) (by simp[AQ,h])
def Zb (b:BB):Bool:=decide (0<b.TAX∧b.TAX≤b.TAJ∧0<b.TAB)
def Zc (g:GG):Bool:=AQ g.force g.E_ && decide (0<QM g.n)
def yS (b:BB):Prop:=vb b.c≤rm∧qb b.TAX≤rm∧qb b.TAJ≤rm∧qb b.TAB≤rm
def yJ (g:GG):Prop:=vb g.p≤rm∧vb g.q≤rm∧vb g.n≤rm∧qb g.force≤rm∧qb g.E_≤rm
theorem MA (b:BB)(hb:yS b):Fn Tryz.prog 83 [bA b] (.bool (Zb b)):=by
 obtain⟨h1,h2,h3,h4⟩:=hb;have:=Jk b.c;have:=Jc b.c;have c1:=GW [b.c.x,b.c.y,b.TAX,b.TAJ,b.TAB] (by simp) (by simp only[b_,V',or_false];rintro r (rfl |rfl |rfl |rfl |rfl) <;> omega);have c2:=Qv b.TAX;have c3:=J6 b.TAX b.TAJ h2 h3;have c4:=Qv b.TAB;refine y_ (fn:=Tryz.f83) Tryz.call83 Tryz.func83 rfl mixed 2 [] [] [] (by kernel_rfl) (L' rfl) (fun a ha=>a_.1 ha▸Jz b) (Xk ?_);have bf:=bF b;simp(disch:=omega)only[P',bA,J4,Xo,↓Xd,wG,seval];refine X0 c1 ⟨FJ [b.c.x,b.c.y,b.TAX,b.TAJ,b.TAB] _ _ _ rfl rfl rfl,trivial⟩ ?_;simp(disch:=omega)only[↓Xd,wG,seval];refine X0 c2 (X1 _) ?_;simp(disch:=omega)only[ZE,↓Xd,wG,seval];refine⟨fun h=>?_,fun h=>?_⟩
 ·refine X0 c3 (X1 _) ?_
  simp(disch:=omega)only[h,KL,↓Xd,wG,seval];refine⟨fun h2=>?_,fun h2=>?_⟩
  ·refine X0 c4 (X1 _) ?_
   simp(disch:=omega)only[h,h2,ZE,↓Xd,wG,seval];exact Xp (v:=.bool (decide (0<b.TAB))) rfl rfl (X5 _) (by simp[Zb,h,h2])
  ·exact Xp (v:=.bool false) rfl rfl (X5 _) (by simp[Zb,h,h2])
 ·exact Xp (v:=.bool false) rfl rfl (X5 _) (by simp[Zb,h])
theorem MC (g:GG)(hg:yJ g):Fn Tryz.prog 63 [gA g] (.bool (Zc g)):=by
 obtain⟨h1,h2,h3,h4,h5⟩:=hg;have:=Jk g.p;have:=Jc g.p;have:=Jk g.q;have:=Jc g.q;have:=Jk g.n;have:=Jc g.n;have c1:=GW [g.p.x,g.p.y,g.q.x,g.q.y,g.n.x,g.n.y] (by simp) (by simp only[b_,V',or_false];rintro r (rfl |rfl |rfl |rfl |rfl |rfl) <;> omega);have c2:=MD g.force g.E_ h4 h5;have c3:=ME g.n h3;have c4:=Qv (QM g.n);refine y_ (fn:=Tryz.f63) Tryz.call63 Tryz.func63 rfl mixed 2 [] [] [] (by kernel_rfl) (L' rfl) (fun a ha=>a_.1 ha▸J2 g) (Xk ?_);simp(disch:=omega)only[P',gA,QZ,Xo,↓Xd,wG,seval];refine X0 c1 ⟨FJ [g.p.x,g.p.y,g.q.x,g.q.y,g.n.x,g.n.y] _ _ _ rfl rfl rfl,trivial⟩ ?_;simp(disch:=omega)only[↓Xd,wG,seval];refine X0 c2 (X1 _) ?_;simp(disch:=omega)only[↓Xd,wG,seval];refine⟨fun h=>?_,fun h=>?_⟩
 ·refine X0 c3 (X1 _) ?_
  simp(disch:=omega)only[h,qA,qC,↓Xd,wG,seval];refine X0 c4 (X1 _) ?_;simp(disch:=omega)only[h,ZE,↓Xd,wG,seval];exact Xp (v:=.bool (decide (0<QM g.n))) rfl rfl (X5 _) (by simp[Zc,h])
 ·exact Xp (v:=.bool false) rfl rfl (X5 _) (by simp[Zc,h])
def bS (b:BB):Prop:=vb b.c≤1400∧qb b.TAX≤40∧qb b.TAJ≤40∧qb b.TAB≤40
def gS (g:GG):Prop:=vb g.p≤1400∧vb g.q≤1400∧vb g.n≤40∧qb g.force≤40∧qb g.E_≤40
theorem bS.ok {b:BB}(h:bS b):yS b:=by obtain⟨h1,h2,h3,h4⟩:=h;unfold yS rm;omega
theorem gS.ok {g:GG}(h:gS g):yJ g:=by obtain⟨h1,h2,h3,h4,h5⟩:=h;unfold yJ rm;omega
theorem rf (n:V2):qb (QM n)≤2*vb n+1:=by
 have:=Jk n;have:=Jc n;have h:=A8 (CY n.x) (CY n.y);rw[Ik,Ik]at h;unfold QM;omega
theorem yy:qb (-1)≤5700:=by rw[C4];decide +kernel
theorem Hh {b:BB}{g:GG}(hb:bS b)(hg:gS g):∀x∈Js b g,(∀r∈x.a,qb r≤5700)∧qb x.b≤5700:=by
 obtain⟨b1,b2,b3,b4⟩:=hb;obtain⟨g1,g2,g3,g4,g5⟩:=hg;have t1:=J3 g.p b.c;have t2:=J3 g.q b.c;have t3:=Cc g.n;have c1:=Kv (g.p.sub b.c) g.n;have c2:=Kv (g.p.sub b.c) g.n.F';have c3:=Kv (g.q.sub b.c) g.n;have c4:=Kv (g.q.sub b.c) g.n.F';have l1:=rf g.n;have e0:qb 0≤5700:=by decide +kernel
 have e1:qb 1≤5700:=by decide +kernel
 have e16:qb 16≤5700:=by decide +kernel
 have en:=yy;have nx:=Jk g.n;have ny:=Jc g.n;have d1:qb g.n.x≤5700:=by omega
 have d2:qb g.n.y≤5700:=by omega
 have d3:qb g.E_≤5700:=by omega
 have d4:qb g.force≤5700:=by omega
 have d5:qb b.TAJ≤5700:=by omega
 have d6:qb b.TAB≤5700:=by omega
 have d7:qb (QM g.n)≤5700:=by omega
 have d8:qb (Xr (g.p.sub b.c) g.n)≤5700:=by omega
 have d9:qb (Xr (g.p.sub b.c) g.n.F')≤5700:=by omega
 have d10:qb (Xr (g.q.sub b.c) g.n)≤5700:=by omega
 have d11:qb (Xr (g.q.sub b.c) g.n.F')≤5700:=by omega
 simp only[Js,To,Ej,GF,C1,ZCp,ZCt,ZBV,ZB3,g_,h_,ZAK,ZCY,b_,V',or_false,forall_eq_or_imp,forall_eq,C4];simp[e0,e1,e16,en,d1,d2,d3,d4,d5,d6,d7,d8,d9,d10,d11]
theorem YH {b:BB}{g:GG}(hf:0≤g.force)(hs:0≤b.TAB):∀x∈Js b g,0≤x.b:=by
 simp only[Js,To,Ej,GF,C1,ZCp,ZCt,ZBV,ZB3,g_,h_,ZAK,ZCY,b_,V',or_false,forall_eq_or_imp,forall_eq];have h16:(0:Rat)≤16:=by decide +kernel
 have h0:(0:Rat)≤0:=ZCR;simp[hf,hs,h16,h0]
theorem Rm (b:BB)(g:GG):∀x∈Js b g,x.a.length=5:=by
 simp only[Js,To,Ej,GF,C1,ZCp,ZCt,ZBV,ZB3,g_,h_,ZAK,ZCY,b_,V',or_false,forall_eq_or_imp,forall_eq];simp
theorem Fd {b:BB}:Zb b=true↔0<b.TAX∧b.TAX≤b.TAJ∧0<b.TAB:=by unfold Zb;simp
theorem Dk {g:GG}:Zc g=true↔(0<g.force∧0≤g.E_∧g.E_≤4)∧0<QM g.n:=by unfold Zc AQ;simp
theorem wU {b:BB}{g:GG}(hb:bS b)(hg:gS g)(h1:Zb b=true)(h2:Zc g=true) :
  ∃x y val,Fn Tryz.prog 51 [P6 5 (Js b g) TAN] (.tup [PH 0 x y val,I 0])∧x.length=5∧y.length=17∧(∀i,qb (x.getD i 0)≤1356773)∧(∀i,qb (y.getD i 0)≤1373878)∧TAw 5 17 (lA (Js b g)) (lB (Js b g)) (lG TAN) (fun k=>x.getD k 0) (fun i=>y.getD i 0) val:=by
 obtain⟨q1,q2,q3⟩:=Fd.1 h1;obtain⟨⟨q4,q5,q6⟩,q7⟩:=Dk.1 h2;have k1:=Hh hb hg;have k2:=YH (b:=b) (g:=g) (ZAy q4) (ZAy q3);have e0:qb 0≤5700:=by decide +kernel
 have e1:qb 1≤5700:=by decide +kernel
 refine mI 5 (Js b g) TAN 5700 678386 (by omega) (by rw[Bk];omega) rfl (Rm b g) (fun i hi=>k2 _ (Q9 KK hi)) 9 (by rw[Bk];omega) (fun k hk=>?_) (fun i k=>?_) (fun i=>?_) (fun k=>?_) e0 e1 (by rw[Bk];omega) (by omega) (by rw[Bk];omega) (by omega) (by omega) 4 (fun k hk=>by match k,hk with |0,_=>rfl |1,_=>rfl |2,_=>rfl |3,_=>rfl |4,h=>exact absurd rfl h |k+5,_=>rfl)
 ·match k,hk with
  |0,_=>rfl
  |1,_=>rfl
  |2,_=>rfl
  |3,_=>rfl
  |4,_=>rfl
  |k+5,h=>omega
 ·unfold lA
  by_cases hi:i<(Js b g).length
  ·by_cases hk:k<((Js b g).getD i KK).a.length
   ·exact(k1 _ (Q9 KK hi)).1 _ (Q9 0 hk)
   ·rw[K' (i:=k),j_ (by omega)];exact e0
  ·rw[K' (i:=i),j_ (by omega)];exact e0
 ·unfold lB
  by_cases hi:i<(Js b g).length
  ·exact(k1 _ (Q9 KK hi)).2
  ·rw[K' (i:=i),j_ (by omega)];exact e0
 ·unfold lG TAN
  match k with
  |0=>exact e0
  |1=>exact e0
  |2=>exact e0
  |3=>exact e0
  |4=>exact e1
  |k+5=>exact e0
def NI (p:Rat×Rat):List AV:=qC p.1 ++ qC p.2
def VU (l:List (Rat×Rat)):AV:=g8 NI 8 (0,0) l
theorem YJ (l:List (Rat×Rat)):VU l=.sl l.length (l.length*8) (Xv NI 8 (0,0) l) false:=C_ rfl
theorem TZ (x:Rat×Rat):∀a∈NI x,A_ a:=by simp[NI,qC,Xc,X5]
theorem IX (l:List (Rat×Rat)):A_ (VU l):=KZ fun a x hx=>TZ a x hx
theorem B0 {P:Program}{fn:Func}{str hcs:List Nat}{a b c x y z:AV}{s:AS}{r1 r2 r3:ResultVar}(hr:fn.results=#[r1,r2,r3])(h1:ZX P s r1=some x)(h2:ZX P s r2=some y)(h3:ZX P s r3=some z)(g1:Zs s.h x a)(g2:Zs s.h y b)(g3:Zs s.h z c) :
  TAC (JK P fn str hcs (.tup [a,b,c])) s :=
 ⟨.tup [x,y,z],by simp[Al,R5,Fk,hr,JC,BH,h1,h2,h3],Dv ⟨g1,g2,g3,trivial⟩⟩
theorem I9 {α:Type}(e:α→List AV)(s:Nat)(d:α)(he:∀x,(e x).length=s) (l:List α):∀j,j<l.length*s→Xf (l.flatMap e) j=Xv e s d l j:=by
 induction l with
 |nil=>intro j hj;simp at hj
 |cons x l ih =>
  intro j hj;show(e x ++ l.flatMap e).getD j .any=_;unfold Xv;have hs:0<s:=Nat.pos_of_ne_zero fun h=>by rw[h]at hj;omega
  by_cases h:j<s
  ·rw[K',S_ (by rw[he];exact h),←K',Nat.div_eq_of_lt h,ZAB h];rfl
  ·rw[K',d_ (by rw[he];omega),he,←K']
   have hj2:j-s<l.length*s:=by rw[ZAF,Nat.succ_mul]at hj;omega
   have:=ih (j-s) hj2;rw[show(l.flatMap e).getD (j-s) .any=Xf (l.flatMap e) (j-s)from rfl,this];unfold Xv;have e1:j/s=(j-s)/s+1:=by rw[Nat.div_eq_sub_div hs (by omega)]
   have e2:j%s=(j-s)%s:=by rw[Nat.mod_eq_sub_mod (by omega)]
   rw[e1,e2];rfl
theorem Kt {α:Type}(e:α→List AV)(s:Nat)(d:α)(he:∀x,(e x).length=s) (l:List α) (n m:Nat) (L:List AV) (t:Bool) (hL:L=l.flatMap e) (hn:n=l.length) (hm:m=l.length*s):B_ (.sl n m (Xf L) t) (g8 e s d l):=by
 subst hn hm hL;exact JJ rfl (N' _) fun j hj=>by rw[I9 e s d he l j hj];exact X' _
theorem wH (f:Nat→Rat):Xl f 0=ZAf (sg (f 0))∧Xl f 1=X8 (Xb (f 0).num.natAbs)∧Xl f 2=ZAf false∧Xl f 3=X8 (Xb (qd (f 0)))∧Xl f 4=ZAf (sg (f 1))∧Xl f 5=X8 (Xb (f 1).num.natAbs)∧Xl f 6=ZAf false∧Xl f 7=X8 (Xb (qd (f 1)))∧Xl f 8=ZAf (sg (f 2))∧Xl f 9=X8 (Xb (f 2).num.natAbs)∧Xl f 10=ZAf false∧Xl f 11=X8 (Xb (qd (f 2)))∧Xl f 12=ZAf (sg (f 3))∧Xl f 13=X8 (Xb (f 3).num.natAbs)∧Xl f 14=ZAf false∧Xl f 15=X8 (Xb (qd (f 3))):=by
 refine⟨rfl,rfl,rfl,rfl,rfl,rfl,rfl,rfl,rfl,rfl,rfl,rfl,rfl,rfl,rfl,rfl⟩
theorem Vt (b:BB)(g:GG)(hb:bS b)(hg:gS g)(h1:Zb b=true)(h2:Zc g=true) :
  ∃x0 x1 x2 x3 m,Fn Tryz.prog 22 [bA b,gA g] (.tup [qA m,VU [(x0,x1),(x2,x3)],I 0])∧kM b g m∧okP b g x0 x1 x2 x3 m∧qb x0≤1356773∧qb x1≤1356773∧qb x2≤1356773∧qb x3≤1356773∧qb m≤1356773:=by
 obtain⟨x,y,m,c4,hx,hy,hbx,hby,hO⟩:=wU hb hg h1 h2;obtain⟨i1,i2,i3⟩:=qW hO;refine⟨x.getD 0 0,x.getD 1 0,x.getD 2 0,x.getD 3 0,m,?_,i1,i2,hbx 0,hbx 1,hbx 2,hbx 3,i3▸hbx 4⟩;have c1:=MA b hb.ok;have c2:=MC g hg.ok;have c3:=N2 b g hb.1 hg.1 hg.2.1 (by have:=hg.2.2.1;omega);rw[h1]at c1;rw[h2]at c2;obtain⟨R1,hR1⟩:∃R,R=qA m:=⟨_,rfl⟩
 have sR1:A_ R1:=hR1▸Xa _;obtain⟨R2,hR2⟩:∃R,R=VU [(x.getD 0 0,x.getD 1 0),(x.getD 2 0,x.getD 3 0)]:=⟨_,rfl⟩
 have sR2:A_ R2:=hR2▸IX _;rw[←hR1,←hR2];refine y_ (fn:=Tryz.f22) Tryz.call22 Tryz.func22 rfl mixed 9 [] [6,7020] [] (by kernel_rfl) (L' rfl) (KS (Jz b) (J2 g)) (XF 60 ?_);simp(disch:=omega)only[P',bA,gA,J4,QZ,Xo,↓Xd,wG,seval];refine X0 c1 (X1 _) ?_;simp(disch:=omega)only[↓Xd,wG,seval];refine X0 c2 (X1 _) ?_;simp(disch:=omega)only[↓Xd,wG,seval];refine X0 c3 (X1 _) ?_;simp(disch:=omega)only[P6,↓Xd,wG,seval];refine X0 c4 (X1 _) ?_;simp(disch:=omega)only[PH,aU,qA,qC,↓Xd,wG,seval];refine⟨rfl,?_⟩;refine e_ ?_ (XB 3 rfl);refine e_ ?_ (XH 7 rfl rfl (by omega));refine Xk ?_;have rx:=wH fun i=>x.getD i 0
 simp(disch:=omega)only[ZAm,List.set,PH,aU,qA,qC,Xt,hx,hy,rx,↓Xd,wG,seval];exact B0 (r1:=.cell 4 28) (r2:=.tmp 5) (r3:=.tmp 6) rfl (Xs XY rfl rfl rfl) rfl rfl (XU sR1 (by rw[hR1];rfl)) (Xw sR2 (by rw[hR2];exact Kt NI 8 (0,0) (fun _=>rfl) [(x.getD 0 0,x.getD 1 0),(x.getD 2 0,x.getD 3 0)] _ _ _ _ rfl rfl rfl)) (XU (X9 0) rfl)
def R3 (x a:List Rat):Rat:=XN (fun k=>a.getD k 0*x.getD k 0) 5
def WQ (a:AV):AV:=.ptr 1 (Xf [a]) 0
theorem G6 {a:AV}(h:A_ a):A_ (WQ a):=XP fun j _=>Xe (l:=[a]) (fun x hx=>a_.1 hx▸h) j
theorem re {x a:List Rat}(h1:∀ r∈x,qb r≤1500000)(h2:∀r∈a,qb r≤5700):qb (R3 x a)≤7600000:=by
 have e0:qb 0≤5700:=by decide +kernel
 have g:∀ {l:List Rat} {c:Nat},5700≤c→(∀r∈l,qb r≤c)→∀k,qb (l.getD k 0)≤c:=fun {l} c hc h k=>by
  by_cases hk:k<l.length
  ·exact h _ (Q9 0 hk)
  ·rw[K',j_ (by omega)];exact k_ e0 hc
 have:=Hj (f:=fun k=>a.getD k 0*x.getD k 0) (E:=1505700) (m:=5) fun i hi=>by
  have:=Qo (a.getD i 0) (x.getD i 0);have:=g (by omega) h1 i;have:=g (N' _) h2 i;omega
 unfold R3;omega
theorem Vs (x:List Rat)(l:Ln)(hx:x.length=5)(hl:l.a.length=5)(h1:∀ r∈x,qb r≤1500000)(h2:∀ r∈l.a,qb r≤5700)(h3:qb l.b≤5700) :
  Fn Tryz.prog 99 [te l,WQ (Q0 x)] (.bool (decide (l.b<R3 x l.a))):=by
 have c1:=jl l.a x 1505700 (by omega) (by omega) (fun i hi=>by have:=h2 _ (Q9 0 hi);have:=h1 _ (Q9 0 (show i<x.length by omega));omega) (by omega);rw[hl,show XN (fun i=>l.a.getD i 0*x.getD i 0) 5=R3 x l.a from rfl]at c1;have q:=re h1 h2;have c2:=J6 (R3 x l.a) l.b (by unfold rm;omega) (by unfold rm;omega);refine y_ (fn:=Tryz.f99) Tryz.call99 Tryz.func99 rfl mixed 4 [] [] [] (by kernel_rfl) (L' rfl) (KS (IU l) (G6 (Xn x))) (Xk ?_);simp(disch:=omega)only[P',te,KR,WQ,qC,Xt,↓Xd,wG,seval];refine X0 c1 (X1 _) ?_;simp(disch:=omega)only[↓Xd,wG,seval];refine X0 c2 (X1 _) ?_;simp(disch:=omega)only[↓Xd,wG,seval];exact Xp rfl rfl (X5 _) (t_ ZAf (decide_eq_decide.2 (Ap _ _)))
def N3 (l:List (Rat×Rat)) (k:Rat):List Rat:=[(l.getD 0 (0,0)).1,(l.getD 0 (0,0)).2,(l.getD 1 (0,0)).1,(l.getD 1 (0,0)).2,k]
def Yk (b:BB)(g:GG)(k:Rat)(l:List (Rat×Rat)):Prop:=okP b g (l.getD 0 (0,0)).1 (l.getD 0 (0,0)).2 (l.getD 1 (0,0)).1 (l.getD 1 (0,0)).2 k
theorem kD (b:BB)(g:GG)(k:Rat)(l:List (Rat×Rat)):((Js b g).any fun x=>decide (x.b<R3 (N3 l k) x.a))=false↔Yk b g k l:=by
 have h:=GS b g fun i=>(N3 l k).getD i 0
 rw[List.any_eq_false];have e:(∀x∈Js b g,¬decide (x.b<R3 (N3 l k) x.a)=true)↔(∀i,i<17→XN (fun k'=>lA (Js b g) i k'*(N3 l k).getD k' 0) 5≤lB (Js b g) i):=by
  constructor
  ·intro h1 i hi
   have:=h1 _ (Q9 KK (show i<(Js b g).length by rw[Bk];exact hi));rw[decide_eq_true_eq,ZAW]at this;exact this
  ·intro h1 x hx
   obtain⟨i,hi,rfl⟩:=ZAI hx;have:=h1 i (by rw[Bk]at hi;exact hi);rw[decide_eq_true_eq,ZAW];unfold lA lB at this;rw[K',U_ hi]at this;exact this
 rw[e,h];rfl
def Ao (b:BB)(g:GG)(k:Rat)(l:List (Rat×Rat)):Int:=if(Zb b && Zc g)=true then(if l.length=2∧Yk b g k l then 0 else 22)else 1
theorem OC (b:BB)(g:GG)(k:Rat)(l:List (Rat×Rat)) (hb:bS b) (hg:gS g) (hk:qb k≤1500000) (hl:l.length<1000000) (hp:∀x∈l,qb x.1≤1500000∧qb x.2≤1500000):Fn Tryz.prog 29 [bA b,gA g,qA k,VU l] (I (Ao b g k l)):=by
 have c1:=MA b hb.ok;have c2:=MC g hg.ok;have c3:=N2 b g hb.1 hg.1 hg.2.1 (by have:=hg.2.2.1;omega);have hS:∀a∈[bA b,gA g,qA k,VU l],A_ a:=by simp[Jz,J2,Xa,IX]
 by_cases hl2:l.length=2
 ·obtain⟨p,q,rfl⟩:∃p q,l=[p,q]:=by
   match l,hl2 with
   | [p,q],_=>exact⟨p,q,rfl⟩
  have hP:VU [p,q]=.sl 2 16 (Xv NI 8 (0,0) [p,q]) false:=rfl;have hF:Xv NI 8 (0,0) [p,q] 0=ZAf (sg p.1)∧Xv NI 8 (0,0) [p,q] 1=X8 (Xb (p.1).num.natAbs)∧Xv NI 8 (0,0) [p,q] 2=ZAf false∧Xv NI 8 (0,0) [p,q] 3=X8 (Xb (qd p.1))∧Xv NI 8 (0,0) [p,q] 4=ZAf (sg p.2)∧Xv NI 8 (0,0) [p,q] 5=X8 (Xb (p.2).num.natAbs)∧Xv NI 8 (0,0) [p,q] 6=ZAf false∧Xv NI 8 (0,0) [p,q] 7=X8 (Xb (qd p.2))∧Xv NI 8 (0,0) [p,q] 8=ZAf (sg q.1)∧Xv NI 8 (0,0) [p,q] 9=X8 (Xb (q.1).num.natAbs)∧Xv NI 8 (0,0) [p,q] 10=ZAf false∧Xv NI 8 (0,0) [p,q] 11=X8 (Xb (qd q.1))∧Xv NI 8 (0,0) [p,q] 12=ZAf (sg q.2)∧Xv NI 8 (0,0) [p,q] 13=X8 (Xb (q.2).num.natAbs)∧Xv NI 8 (0,0) [p,q] 14=ZAf false∧Xv NI 8 (0,0) [p,q] 15=X8 (Xb (qd q.2)):=⟨rfl,rfl,rfl,rfl,rfl,rfl,rfl,rfl,rfl,rfl,rfl,rfl,rfl,rfl,rfl,rfl⟩
  obtain⟨p1,p2⟩:=hp p (by simp);obtain⟨p3,p4⟩:=hp q (by simp);have c4:=GW [k,p.1,p.2,q.1,q.2] (by simp) (by unfold rm;simp only[b_,V',or_false];rintro r (rfl |rfl |rfl |rfl |rfl) <;> omega);refine y_ (fn:=Tryz.f29) Tryz.call29 Tryz.func29 rfl mixed 11 [] [] [] (by kernel_rfl) (L' rfl) hS (XF 132 ?_);simp(disch:=omega)only[P',bA,gA,J4,QZ,Xo,qA,qC,↓Xd,wG,seval];refine X0 c1 (X1 _) ?_;simp(disch:=omega)only[↓Xd,wG,seval];refine⟨fun h1=>?_,fun h1=>?_⟩
  ·exact Xp (v:=I 1) rfl rfl (X9 _) (by simp at h1;simp[Ao,h1])
  have h1:Zb b=true:=by cases e:Zb b <;> simp_all
  refine X0 c2 (X1 _) ?_;simp(disch:=omega)only[hP,hF,↓Xd,wG,seval];refine⟨fun h2=>?_,fun h2=>?_⟩
  ·exact Xp (v:=I 1) rfl rfl (X9 _) (by simp at h2;simp[Ao,h1,h2])
  have h2:Zc g=true:=by cases e:Zc g <;> simp_all
  refine X0 c4 ⟨FJ [k,p.1,p.2,q.1,q.2] _ _ _ rfl rfl rfl,trivial⟩ ?_;simp(disch:=omega)only[hP,hF,↓Xd,wG,seval];obtain⟨X,hX⟩:∃X,X=N3 [p,q] k:=⟨_,rfl⟩
  have hX5:X.length=5:=by rw[hX];rfl
  have hXq:∀r∈X,qb r≤1500000:=by
   rw[hX];simp only[N3,b_,V',or_false];rintro r (rfl |rfl |rfl |rfl |rfl)
   ·exact p1
   ·exact p2
   ·exact p3
   ·exact p4
   ·exact hk
  have c5:=GI (Js b g) 99 [WQ (Q0 X)] (fun x=>decide (x.b<R3 X x.a)) (by rw[Bk];omega) (fun a ha=>a_.1 ha▸G6 (Xn X)) fun x hx=>Vs X x hX5 (Rm b g x hx) hXq (Hh hb hg x hx).1 (Hh hb hg x hx).2
  refine e_ ?_ (Qh 3 (Xf [Q0 X]) rfl (fun j hj=>by
   match j,hj with
   |0,_=>exact XI (by rw[hX];have:=Kt qC 4 0 (fun _=>rfl) (N3 [p,q] k) 5 20 (qC p.1 ++ qC p.2 ++ qC q.1 ++ qC q.2 ++ qC k) false rfl rfl rfl;exact this)
   |j+1,h=>omega))
  refine e_ ?_ (XB 3 rfl);refine e_ ?_ (XH 9 rfl rfl (by omega));refine Xk ?_;simp(disch:=omega)only[ZAm,List.set,↓Xd,wG,seval];refine X0 c3 (X1 _) ?_;simp(disch:=omega)only[P6,↓Xd,wG,seval];refine X0 c5 (X1 _) ?_;simp(disch:=omega)only[↓Xd,wG,seval];have hh:=kD b g k [p,q];rw[←hX]at hh;refine⟨fun h3=>?_,fun h3=>?_⟩
  ·have n:¬Yk b g k [p,q]:=fun hB=>by have e:=hh.2 hB;rw[e]at h3;exact absurd h3 (by simp)
   exact Xp (v:=I 22) rfl rfl (X9 _) (by simp[Ao,h1,h2,n])
  ·have y:Yk b g k [p,q]:=hh.1 (by revert h3;cases(Js b g).any (fun x=>decide (x.b<R3 X x.a)) <;> simp)
   exact Xp (v:=I 0) rfl rfl (X9 _) (by simp[Ao,h1,h2,y])
 ·refine y_ (fn:=Tryz.f29) Tryz.call29 Tryz.func29 rfl mixed 11 [] [] [] (by kernel_rfl) (L' rfl) hS (Xk ?_)
  have hl3:¬ (l.length:Int)=2:=by omega
  simp(disch:=omega)only[P',bA,gA,J4,QZ,Xo,qA,qC,↓Xd,wG,seval];refine X0 c1 (X1 _) ?_;simp(disch:=omega)only[↓Xd,wG,seval];refine⟨fun h1=>?_,fun h1=>?_⟩
  ·exact Xp (v:=I 1) rfl rfl (X9 _) (by simp at h1;simp[Ao,h1])
  have h1:Zb b=true:=by cases e:Zb b <;> simp_all
  refine X0 c2 (X1 _) ?_;simp(disch:=omega)only[YJ,hl3,↓Xd,wG,seval];refine⟨fun h2=>?_,fun h2=>?_⟩
  ·exact Xp (v:=I 1) rfl rfl (X9 _) (by simp at h2;simp[Ao,h1,h2])
  have h2:Zc g=true:=by cases e:Zc g <;> simp_all
  exact Xp (v:=I 22) rfl rfl (X9 _) (by simp[Ao,h1,h2,hl2])
theorem TG (f r:Rat)(h1:qb f≤rm)(h2:qb r≤rm):Fn Tryz.prog 88 [qA f,qA r] (.bool (AQ f r)):=by
 have v1:=Ct f h1;have v2:=Ct r h2;have c2:=Qz f h1;have c3:=Qz r h2;have c4:=XS 4 1 ⟨by omega,by omega⟩ ⟨by omega,by omega⟩;rw[show O_ 4 1=4 by decide +kernel]at c4;have c5:=K9 r 4 h2 (by decide +kernel);refine y_ (fn:=Tryz.f88) Tryz.call88 Tryz.func88 rfl mixed 4 [] [] [] (by kernel_rfl) (L' rfl) (KS (Xa f) (Xa r)) (Xk ?_);simp(disch:=omega)only[P',qA,qC,↓Xd,wG,seval];refine X0 v1 (X1 _) ?_;simp(disch:=omega)only[↓Xd,wG,seval];refine X0 v2 (X1 _) ?_;simp(disch:=omega)only[↓Xd,wG,seval];refine X0 c2 (X1 _) ?_;simp(disch:=omega)only[ZE,ZD,↓Xd,wG,seval];refine⟨fun h=>?_,fun h=>?_⟩
 ·refine X0 c3 (X1 _) ?_
  simp(disch:=omega)only[h,ZE,ZD,↓Xd,wG,seval];refine⟨fun h2=>?_,fun h2=>?_⟩
  ·refine X2 c4 rfl ?_
   simp(disch:=omega)only[h,h2,qA,qC,↓Xd,wG,seval];refine X0 c5 (X1 _) ?_;simp(disch:=omega)only[h,h2,↓Xd,wG,seval];exact Xp (v:=.bool (decide (AJ r 4≤0))) rfl rfl (X5 _) (t_ ZAf (by unfold AQ;exact decide_eq_decide.2 (by rw[KL];simp[h,h2])))
  ·exact Xp (v:=.bool false) rfl rfl (X5 _) (by simp[AQ,h,h2])
 ·exact Xp (v:=.bool false) rfl rfl (X5 _) (by simp[AQ,h])
theorem tR:vb v0≤1400:=by decide +kernel
theorem wT {a:V2}(h:vb a≤1400):Qw [a] 1400:=fun i=>match i with
 |0=>h
 |_+1=>tR
theorem Eb (t:Bool):B_ (.agg [.bool false,.sl 0 0 (fun _=>.any) t,.bool false,.sl 0 0 (fun _=>.any) t,.bool false,.sl 0 0 (fun _=>.any) t,.bool false,.sl 0 0 (fun _=>.any) t]) (vA v0):=by
 have w:=Jj t;exact JX ⟨w.1,w.2.1,w.2.2.1,w.2.2.2.1,w.1,w.2.1,w.2.2.1,w.2.2.2.1,trivial⟩
theorem mb (b:BB)(hb:bS b):Fn Tryz.prog 23 [bA b] (.bool (Zb b)):=by
 obtain⟨h1,h2,h3,h4⟩:=hb;have n2:qb b.TAX≤rm:=by unfold rm;omega
 have n3:qb b.TAJ≤rm:=by unfold rm;omega
 have n4:qb b.TAB≤rm:=by unfold rm;omega
 have c1:=H9 [b.c] 1400 (wT h1) (by omega) (by simp);have v1:=Ct b.TAX n2;have v2:=Ct b.TAJ n3;have v3:=Ct b.TAB n4;have c2:=Qz b.TAX n2;have c3:=K9 b.TAX b.TAJ n2 n3;have c4:=Qz b.TAB n4;refine y_ (fn:=Tryz.f23) Tryz.call23 Tryz.func23 rfl mixed 3 [] [] [] (by kernel_rfl) (L' rfl) (fun a ha=>a_.1 ha▸Jz b) (Xk ?_);simp(disch:=omega)only[P',bA,J4,Xo,↓Xd,wG,seval];refine X0 c1 ⟨Kt vC 8 v0 (fun _=>rfl) [b.c] _ _ _ _ rfl rfl rfl,trivial⟩ ?_;simp(disch:=omega)only[↓Xd,wG,seval];refine X0 v1 (X1 _) ?_;simp(disch:=omega)only[↓Xd,wG,seval];refine X0 v2 (X1 _) ?_;simp(disch:=omega)only[↓Xd,wG,seval];refine X0 v3 (X1 _) ?_;simp(disch:=omega)only[↓Xd,wG,seval];refine X0 c2 (X1 _) ?_;simp(disch:=omega)only[ZE,↓Xd,wG,seval];refine⟨fun h=>?_,fun h=>?_⟩
 ·refine X0 c3 (X1 _) ?_
  simp(disch:=omega)only[h,KL,↓Xd,wG,seval];refine⟨fun h2=>?_,fun h2=>?_⟩
  ·refine X0 c4 (X1 _) ?_
   simp(disch:=omega)only[h,h2,ZE,↓Xd,wG,seval];exact Xp (v:=.bool (decide (0<b.TAB))) rfl rfl (X5 _) (by simp[Zb,h,h2])
  ·exact Xp (v:=.bool false) rfl rfl (X5 _) (by simp[Zb,h,h2])
 ·exact Xp (v:=.bool false) rfl rfl (X5 _) (by simp[Zb,h])
theorem H3 (n:V2):(0<QM n)=(n≠v0):=propext (by
 have h0:∀x:Rat,0≤CY x∧(CY x=0↔x=0):=fun x=>by unfold CY;split <;> constructor <;> grind
 obtain⟨a1,a2⟩:=h0 n.x;obtain⟨b1,b2⟩:=h0 n.y;constructor
 ·rintro h rfl
  have e1:=a2.2 rfl;have e2:=b2.2 rfl;unfold QM at h;rw[e1,e2]at h;grind
 ·intro h
  refine ZBA.1 fun h2=>h ?_
  unfold QM at h2;have e1:CY n.x=0:=by grind
  have e2:CY n.y=0:=by grind
  have x0:=a2.1 e1;have y0:=b2.1 e2;cases n;simp only at x0 y0;subst x0 y0;rfl)
theorem F0 (a:V2)(k:Rat):vb (a.scale k)≤vb a+qb k:=by
 have h1:=Qo a.x k;have h2:=Qo a.y k;have:=Jk a;have:=Jc a;show max (qb (a.scale k).x) (qb (a.scale k).y)≤_;have e1:qb (a.scale k).x≤vb a+qb k:=k_ h1 (by omega);have e2:qb (a.scale k).y≤vb a+qb k:=k_ h2 (by omega);omega
def pI (x y:Int):V2:=⟨x,y⟩
def sqV:List V2:=[v0,pI 2 0,pI 2 2,pI 0 2]
def Fc (n:Int):BB:=⟨pI 1 1,O_ 1 1,O_ 2 1,O_ n 1⟩
theorem FI:∀ {L M:List AV},TAR L M→∀j,B_ (Xf L j) (Xf M j)
 | [],[],_,j=>X' _
 |a :: L,b :: M,h,0=>h.1
 |a :: L,b :: M,h,j+1=>FI (L:=L) (M:=M) h.2 j
theorem VG:Fn Tryz.prog 75 [] (Qm sqV):=by
 have c1:=Kq 2 0 ⟨by omega,by omega⟩ ⟨by omega,by omega⟩;have c2:=Kq 2 2 ⟨by omega,by omega⟩ ⟨by omega,by omega⟩;have c3:=Kq 0 2 ⟨by omega,by omega⟩ ⟨by omega,by omega⟩;rw[show(⟨((2:Int):Rat),((0:Int):Rat)⟩:V2)=pI 2 0 from rfl]at c1;rw[show(⟨((2:Int):Rat),((2:Int):Rat)⟩:V2)=pI 2 2 from rfl]at c2;rw[show(⟨((0:Int):Rat),((2:Int):Rat)⟩:V2)=pI 0 2 from rfl]at c3;obtain⟨R,hR⟩:∃R,R=Qm sqV:=⟨_,rfl⟩
 have sR:A_ R:=hR▸Xq _;rw[←hR];refine y_ (fn:=Tryz.f75) Tryz.call75 Tryz.func75 rfl mixed 1 [] [] [] (by kernel_rfl) (L' rfl) (by simp) (Xk ?_);simp(disch:=omega)only[P',↓Xd,wG,seval];refine X2 c1 rfl ?_;simp(disch:=omega)only[vA,vC,↓Xd,wG,seval];refine X2 c2 rfl ?_;simp(disch:=omega)only[vA,vC,↓Xd,wG,seval];refine X2 c3 rfl ?_;simp(disch:=omega)only[vA,vC,↓Xd,wG,seval];refine A9 rfl (Xw sR ?_);rw[hR];have w:=Jj false;have hL:TAR ([.bool false,.sl 0 0 (fun _=>.any) false,.bool false,.sl 0 0 (fun _=>.any) false,.bool false,.sl 0 0 (fun _=>.any) false,.bool false,.sl 0 0 (fun _=>.any) false] ++ (vC (pI 2 0) ++ vC (pI 2 2) ++ vC (pI 0 2))) (sqV.flatMap vC) :=
  ⟨w.1,w.2.1,w.2.2.1,w.2.2.2.1,w.1,w.2.1,w.2.2.1,w.2.2.2.1,X1 _⟩
 exact JJ rfl (N' _) fun j hj=>by
  rw[←I9 vC 8 v0 (fun _=>rfl) sqV j hj];exact FI hL j
theorem OL (n:Int)(hn:ZO n):Fn Tryz.prog 76 [I n] (bA (Fc n)):=by
 have c1:=Kq 1 1 ⟨by omega,by omega⟩ ⟨by omega,by omega⟩;rw[show(⟨((1:Int):Rat),((1:Int):Rat)⟩:V2)=pI 1 1 from rfl]at c1;have c2:=XS 1 1 ⟨by omega,by omega⟩ ⟨by omega,by omega⟩;have c3:=XS 2 1 ⟨by omega,by omega⟩ ⟨by omega,by omega⟩;have c4:=XS n 1 hn ⟨by omega,by omega⟩;obtain⟨R,hR⟩:∃R,R=bA (Fc n):=⟨_,rfl⟩
 have sR:A_ R:=hR▸Jz _;rw[←hR];refine y_ (fn:=Tryz.f76) Tryz.call76 Tryz.func76 rfl mixed 3 [] [] [] (by kernel_rfl) (L' rfl) (fun a ha=>a_.1 ha▸X9 n) (Xk ?_);simp(disch:=omega)only[P',↓Xd,wG,seval];refine X2 c1 rfl ?_;simp(disch:=omega)only[vA,vC,↓Xd,wG,seval];refine X2 c2 rfl ?_;simp(disch:=omega)only[qA,qC,↓Xd,wG,seval];refine X2 c3 rfl ?_;simp(disch:=omega)only[qA,qC,↓Xd,wG,seval];refine X2 c4 rfl ?_;simp(disch:=omega)only[qA,qC,↓Xd,wG,seval];exact Cv rfl Yo rfl rfl rfl (Xw sR (by rw[hR];exact X' _))
theorem yO {x y:Rat}(h:x*x+y*y=0):x=0∧y=0:=by
 have hx:=Br x;have hy:=Br y;have h1:x*x=0:=by grind
 have h2:y*y=0:=by grind
 exact⟨by rcases ZA5.1 h1 with h |h <;> exact h,by rcases ZA5.1 h2 with h |h <;> exact h⟩
theorem LG {x y:Rat}(h:¬ (x=0∧y=0)):0<x*x+y*y:=by
 have hx:=Br x;have hy:=Br y;have:¬x*x+y*y=0:=fun e=>h (yO e)
 grind
theorem He (u1 u2 v1 v2 y1 y2:Rat)(h:u1*v2 - u2*v1=0)(hd:0<u1*v1+u2*v2):y1*u2-y2*u1=0∨0<(y1*u2-y2*u1)*(y1*v2-y2*v1):=by
 by_cases hc:y1*u2-y2*u1=0
 ·exact .inl hc
 ·right
  have e:(y1*u2-y2*u1)*(y1*v2-y2*v1)*(u1*v1+u2*v2)=(y1*u2-y2*u1)*(y1*u2-y2*u1)*(v1*v1+v2*v2)+(y1*u2-y2*u1)*(u1*v2-u2*v1)*(y1*v1+y2*v2):=by grind
  rw[h]at e;have hv:0<v1*v1+v2*v2:=LG fun⟨a,b⟩=>by rw[a,b]at hd;grind
  have hcc:0<(y1*u2-y2*u1)*(y1*u2-y2*u1):=by
   have:=Br (y1*u2-y2*u1);have h2:¬ (y1*u2-y2*u1)*(y1*u2-y2*u1)=0:=fun e=>by rcases ZA5.1 e with h |h <;> exact hc h
   grind
  have hp:=ZBG hcc hv;refine ZBA.1 fun hn=>?_
  have:=zY (show 0≤-((y1*u2-y2*u1)*(y1*v2-y2*v1))by grind) (ZAy hd);grind
theorem Dp {p q:Rat}(h:0<p*q):(0<p∧0<q)∨(p<0∧q<0):=by
 rcases Rat.le_total (a:=0) (b:=p)with hp |hp
 ·left
  have hp2:0<p:=by
   refine ZBA.1 fun g=>?_
   have:p=0:=by grind
   rw[this]at h;grind
  refine⟨hp2,ZBA.1 fun g=>?_⟩;have:=zY hp (show 0≤-q by grind);grind
 ·right
  have hp2:p<0:=by
   refine ZBA.1 fun g=>?_
   have:p=0:=by grind
   rw[this]at h;grind
  refine⟨hp2,ZBA.1 fun g=>?_⟩;have:=zY (show 0≤-p by grind) g;grind
theorem mF (x1 x2 m1 m2 k1 k2:Rat)(hx:¬ (x1=0∧x2=0)) (hp:x1*m2-x2*m1=0) (hq:x1*k2-x2*k1=0)
  (h1:0<m1*(m1-x1)+m2*(m2-x2)) (h2:0<k1*(k1-x1)+k2*(k2-x2)) (h3:0<m1*k1+m2*k2) :
  (x1*x1+x2*x2<x1*m1+x2*m2∧x1*x1+x2*x2<x1*k1+x2*k2)∨(x1*m1+x2*m2<0∧x1*k1+x2*k2<0):=by
 have hn:=LG hx;have e1:(x1*m1+x2*m2)*(x1*m1+x2*m2-(x1*x1+x2*x2))=(x1*x1+x2*x2)*(m1*(m1-x1)+m2*(m2-x2))-(x1*m2-x2*m1)*(x1*m2-x2*m1):=by grind
 have e2:(x1*k1+x2*k2)*(x1*k1+x2*k2-(x1*x1+x2*x2))=(x1*x1+x2*x2)*(k1*(k1-x1)+k2*(k2-x2))-(x1*k2-x2*k1)*(x1*k2-x2*k1):=by grind
 have e3:(x1*m1+x2*m2)*(x1*k1+x2*k2)=(x1*x1+x2*x2)*(m1*k1+m2*k2)-(x1*m2-x2*m1)*(x1*k2-x2*k1):=by grind
 rw[hp]at e1;rw[hq]at e2;rw[hp]at e3;have p1:=ZBG hn h1;have p2:=ZBG hn h2;have p3:=ZBG hn h3;have g1:0<(x1*m1+x2*m2)*(x1*m1+x2*m2-(x1*x1+x2*x2)):=by grind
 have g2:0<(x1*k1+x2*k2)*(x1*k1+x2*k2-(x1*x1+x2*x2)):=by grind
 have g3:0<(x1*m1+x2*m2)*(x1*k1+x2*k2):=by grind
 generalize x1*m1+x2*m2=C at *;generalize x1*k1+x2*k2=D at *;generalize x1*x1+x2*x2=N at *;rcases Dp g3 with⟨a,b⟩ | ⟨a,b⟩
 ·left
  rcases Dp g1 with⟨_,c⟩ | ⟨c,_⟩
  ·rcases Dp g2 with⟨_,d⟩ | ⟨d,_⟩
   ·exact⟨by grind,by grind⟩
   ·grind
  ·grind
 ·exact .inr ⟨a,b⟩
theorem Mm (m1 m2 x1 x2 k1 k2:Rat)(hm:¬ (m1=0∧m2=0)) (h1:x1*m2-x2*m1=0) (h2:m1*k2-m2*k1=0):x1*k2-x2*k1=0:=by
 have hn:=LG hm;have e:(m1*m1+m2*m2)*(x1*k2-x2*k1)=(x1*m1+x2*m2)*(m1*k2-m2*k1)+(x1*m2-x2*m1)*(m1*k1+m2*k2):=by grind
 rw[h1,h2]at e;have e2:(m1*m1+m2*m2)*(x1*k2-x2*k1)=0:=by grind
 rcases ZA5.1 e2 with h |h
 ·grind
 ·exact h
theorem zk (x1 x2 m1 m2 k1 k2:Rat)(hx:¬ (x1=0∧x2=0))
  (P:x1*m2-x2*m1=0→0<m1*(m1-x1)+m2*(m2-x2)) (Q:x1*k2-x2*k1=0→0<k1*(k1-x1)+k2*(k2-x2))
  (R:m1*k2-m2*k1=0→0<m1*k1+m2*k2) (S:(k1-m1)*(x2-m2)-(k2-m2)*(x1-m1)=0→0<(m1-x1)*(k1-x1)+(m2-x2)*(k2-x2))
  (hn:¬ ((x1*m2-x2*m1)*(x1*k2-x2*k1)<0∧(m1*k2-m2*k1)*((k1-m1)*(x2-m2)-(k2-m2)*(x1-m1))<0)) :
  0<(x1*m2-x2*m1)*(x1*k2-x2*k1)∨0<(m1*k2-m2*k1)*((k1-m1)*(x2-m2)-(k2-m2)*(x1-m1)) ∨
  ((x1*x1+x2*x2<x1*m1+x2*m2∧x1*x1+x2*x2<x1*k1+x2*k2)∨(x1*m1+x2*m2<0∧x1*k1+x2*k2<0)):=by
 by_cases hp:x1*m2-x2*m1=0
 ·have h1:=P hp
  have hm:¬ (m1=0∧m2=0):=fun⟨a,b⟩=>by rw[a,b]at h1;grind
  rcases He (-m1) (-m2) (x1-m1) (x2-m2) (k1-m1) (k2-m2) (by grind) (by grind)with h |h
  ·have hr:m1*k2-m2*k1=0:=by grind
   have hq:=Mm m1 m2 x1 x2 k1 k2 hm hp hr;exact Or.inr (Or.inr (mF x1 x2 m1 m2 k1 k2 hx hp hq h1 (Q hq) (R hr)))
  ·exact Or.inr (Or.inl (by grind))
 by_cases hq:x1*k2-x2*k1=0
 ·have h1:=Q hq
  have hk:¬ (k1=0∧k2=0):=fun⟨a,b⟩=>by rw[a,b]at h1;grind
  rcases He (-k1) (-k2) (x1-k1) (x2-k2) (k1-m1) (k2-m2) (by grind) (by grind)with h |h
  ·have hr:m1*k2-m2*k1=0:=by grind
   exact absurd (Mm k1 k2 x1 x2 m1 m2 hk hq (by grind)) hp
  ·exact Or.inr (Or.inl (by grind))
 by_cases hr:m1*k2-m2*k1=0
 ·rcases He m1 m2 k1 k2 x1 x2 hr (R hr)with h |h
  ·exact absurd h hp
  ·exact Or.inl h
 by_cases hs:(k1-m1)*(x2-m2)-(k2-m2)*(x1-m1)=0
 ·rcases He (m1-x1) (m2-x2) (k1-x1) (k2-x2) x1 x2 (by grind) (S hs)with h |h
  ·exact absurd (by grind) hp
  ·exact Or.inl (by grind)
 have ne1:¬ (x1*m2-x2*m1)*(x1*k2-x2*k1)=0:=fun e=>by
  rcases ZA5.1 e with h |h
  ·exact hp h
  ·exact hq h
 have ne2:¬ (m1*k2-m2*k1)*((k1-m1)*(x2-m2)-(k2-m2)*(x1-m1))=0:=fun e=>by
  rcases ZA5.1 e with h |h
  ·exact hr h
  ·exact hs h
 generalize (x1*m2-x2*m1)*(x1*k2-x2*k1)=A at *;generalize (m1*k2-m2*k1)*((k1-m1)*(x2-m2)-(k2-m2)*(x1-m1))=B at *;grind
theorem YY (p q:Rat)(h:p.num.sign*q.num.sign<0→False):¬p*q<0:=fun hh=>by
 have hh:0<p * -q:=by grind
 rcases Dp hh with⟨a,b⟩ | ⟨a,b⟩
 ·have h1:=(E7 p).2 a
  have h2:=(Hy q).2 (by grind);exact h (Int.mul_neg_of_pos_of_neg h1 h2)
 ·have h1:=(Hy p).2 a
  have h2:=(E7 q).2 (by grind);exact h (Int.mul_neg_of_neg_of_pos h1 h2)
theorem Hb (a b p:V2)(h:OV a b p=false)(h0:Xr (b.sub a) (p.sub a)=0):0<Qb (a.sub p) (b.sub p):=by
 unfold OV Kz at h;rw[h0]at h;have h2:¬ (Qb (a.sub p) (b.sub p)).num.sign≤0:=by simpa using h
 exact(E7 _).1 (by omega)
theorem DG (n a b c d:V2)(h:((Qb n a<Qb n c∧Qb n a<Qb n d)∧(Qb n b<Qb n c∧Qb n b<Qb n d))∨((Qb n c<Qb n a∧Qb n d<Qb n a)∧(Qb n c<Qb n b∧Qb n d<Qb n b))):Za n a b c d=true:=by
 unfold Za IF;simp only[Bool.or_eq_true,w_,decide_eq_true_eq];rcases h with⟨⟨h1,h2⟩,h3,h4⟩ | ⟨⟨h1,h2⟩,h3,h4⟩
 ·exact .inl ⟨⟨⟨h1,h2⟩,h3⟩,h4⟩
 ·exact .inr ⟨⟨⟨h1,h3⟩,h2⟩,h4⟩
theorem OP (a b c d:V2)(hab:a≠b)(h:A5 a b c d=false):¬AY a b c d:=by
 unfold A5 at h;simp only[Bool.or_eq_false_iff]at h;obtain⟨⟨⟨⟨h1,h2⟩,h3⟩,h4⟩,h5⟩:=h;have hx:¬ (b.x-a.x=0∧b.y-a.y=0):=fun⟨e1,e2⟩=>hab (by cases a;cases b;simp only[V2.mk.injEq];exact⟨by grind,by grind⟩)
 have n:=zk (b.x-a.x) (b.y-a.y) (c.x-a.x) (c.y-a.y) (d.x-a.x) (d.y-a.y) hx
  (fun e=>by have:=Hb a b c h2 (by unfold Xr V2.sub;grind);unfold Qb V2.sub at this;grind)
  (fun e=>by have:=Hb a b d h3 (by unfold Xr V2.sub;grind);unfold Qb V2.sub at this;grind)
  (fun e=>by have:=Hb c d a h4 (by unfold Xr V2.sub;grind);unfold Qb V2.sub at this;grind)
  (fun e=>by have:=Hb c d b h5 (by unfold Xr V2.sub;grind);unfold Qb V2.sub at this;grind)
  (by
   rintro⟨g1,g2⟩;unfold C3 Kz at h1;rw[Bool.and_eq_false_iff,decide_eq_false_iff_not,decide_eq_false_iff_not]at h1;rcases h1 with h1 |h1
   ·have h1:=YY _ _ h1
    unfold Xr V2.sub at h1;grind
   ·have h1:=YY _ _ h1
    unfold Xr V2.sub at h1;grind)
 intro hm;rcases n with n |n |n
 ·have:=hm 0 (by omega)
  rw[DG _ _ _ _ _ ?_]at this
  ·exact absurd this (by decide)
  ·unfold El Qb V2.F' V2.sub
   rcases Dp n with⟨g1,g2⟩ | ⟨g1,g2⟩
   ·left;grind
   ·right;grind
 ·have:=hm 1 (by omega)
  rw[DG _ _ _ _ _ ?_]at this
  ·exact absurd this (by decide)
  ·unfold El Qb V2.F' V2.sub
   rcases Dp n with⟨g1,g2⟩ | ⟨g1,g2⟩
   ·right;grind
   ·left;grind
 ·have:=hm 2 (by omega)
  rw[DG _ _ _ _ _ ?_]at this
  ·exact absurd this (by decide)
  ·unfold El Qb V2.sub
   have hn:=LG hx;rcases n with⟨g1,g2⟩ | ⟨g1,g2⟩
   ·left;grind
   ·right;grind
theorem VI (a b c d:V2):A5 a b c d=A5 c d a b:=by
 unfold A5;have:C3 a b c d=C3 c d a b:=by unfold C3;rw[Bool.and_comm]
 rw[this];cases C3 c d a b <;> cases OV a b c <;> cases OV a b d <;> cases OV c d a <;> cases OV c d b <;> rfl
theorem LC {a b c:V2}(h:¬Kz a b c=0):a≠b:=by
 rintro rfl;refine h ?_;unfold Kz;have:Xr (a.sub a) (c.sub a)=0:=by unfold Xr V2.sub;grind
 rw[this];rfl
theorem lZ (L:List V2)(h:AW L):ZQ L:=by
 obtain⟨h1,h2,h3⟩:=h;refine⟨h1,fun i hi=>⟨(h2 i hi).1,fun k hk hb=>?_⟩,h3⟩;obtain⟨b1,b2,b3⟩:=hb;have hne:∀j,j<L.length→atF L j≠atF L (j+1):=fun j hj=>LC (h2 j hj).1
 rcases ZDk k i with hki |hki
 ·have e:(k+L.length-i)%L.length=k+L.length-i:=ZAB (by omega)
  rw[e]at b1 b2;have hp:=(h2 k hk).2 i (by omega) hi;have hm:(i+1)%L.length≠k:=by
   rcases ZDk (i+1) L.length with g |g
   ·rw[ZAB g];omega
   ·rw[show i+1=L.length by omega,ZC1];omega
  have hf:A5 (atF L k) (atF L (k+1)) (atF L i) (atF L (i+1))=false:=by
   rw[←ZA2];exact fun g=>hp ⟨hm,g⟩
  rw[VI]at hf;exact OP _ _ _ _ (hne i hi) hf b3
 ·have e:(k+L.length-i)%L.length=k-i:=by
   rw[show k+L.length-i=(k-i)+L.length by omega,Nat.add_mod_right,ZAB (by omega)]
  rw[e]at b1 b2;have hp:=(h2 i hi).2 k (by omega) hk;have hm:(k+1)%L.length≠i:=by
   rcases ZDk (k+1) L.length with g |g
   ·rw[ZAB g];omega
   ·rw[show k+1=L.length by omega,ZC1];omega
  have hf:A5 (atF L i) (atF L (i+1)) (atF L k) (atF L (k+1))=false:=by
   rw[←ZA2];exact fun g=>hp ⟨hm,g⟩
  exact OP _ _ _ _ (hne i hi) hf b3
theorem BI (L:List V2):ZQ L↔AW L:=⟨md L,lZ L⟩
end
end Go.Ab.N
