/- Contracts of functions, for every argument that fits. -/
import Derived.Test.YtcmfnmceomhgcaaGreatC9
import Derived.Test.YtcmfnmceomhgcaaGreatC6
set_option linter.unusedSimpArgs false
set_option linter.unusedVariables false
namespace Go.Ab.N
open Go Go.RowKit Go.Proofs
noncomputable section
set_option maxRecDepth 10000
set_option maxHeartbeats 4000000
open Classical
def lZ:List AV:=[.bool false,.sl 0 0 (fun _=>.any) false,.bool false,.sl 0 0 (fun _=>.any) false]
theorem Mk (b:BB)(g:GG)(h1:vb b.c≤1400)(h2:vb g.p≤1400)(h3:vb g.q≤1400)(h4:vb g.n≤1400):Fn Tryz.prog 84 [bA b,gA g] (dC 5 (Jj b g) goal5):=by
 obtain⟨R,hR⟩:∃R,R=dC 5 (Jj b g) goal5:=⟨_,rfl⟩
 have sR:Settled R:=hR▸Es _ _ _;have c1:=Cy 1 1 ⟨by omega,by omega⟩ ⟨by omega,by omega⟩;rw[show Rat.divInt 1 1=1 by decide +kernel]at c1;have cm:=Cy (-1) 1 ⟨by omega,by omega⟩ ⟨by omega,by omega⟩;rw[show Rat.divInt (-1) 1 = -1 by decide +kernel]at cm;have c16:=Cy 16 1 ⟨by omega,by omega⟩ ⟨by omega,by omega⟩;rw[show Rat.divInt 16 1=16 by decide +kernel]at c16;have cr:=JX g.rough;have cq:=RJ g.n;have cp:=AZ g.p b.c (by unfold rm;omega) (by unfold rm;omega);have cs:=AZ g.q b.c (by unfold rm;omega) (by unfold rm;omega);have cl:=LS g.n (by unfold rm;omega);rw[←hR];refine Fn.intro (fn:=Tryz.f84) Tryz.call84 Tryz.func84 rfl mixed 18 [49,50,51] [2,3005,4,16,17007,18,20,21013,21,22016,22,23017] [16,20,21,22] (by kernel_rfl) (Nat.le_of_ble_eq_true rfl) (Kd (AL b) (QE g)) (XL 10 ?_);simp(disch:=omega)only[AS.start,bA,gA,JL,QJ,Xu,↓Xd,wG,seval];refine Run.sub (s':=⟨18,[49,50,51],[.any,.any,.ref 0 0 0,.ref 1 0 0,.ref 2 0 0,.any,.any,.any,.any,.any,.any,.any,.any,.any,.any,.any,.any,.any],[],[.row 0 20 (Xg (bC b)),.row 0 32 (Xg (gC g)),.row 0 3 (Xg [I 0,.sl 0 0 (fun _=>.any) true,.sl 0 0 (fun _=>.any) true])]⟩) ?_ (Xi rfl (by simp[Xm]) trivial (by rw[JL,QJ];rfl));refine Run.sub ?_ (Q0 0 rfl);refine Run.sub ?_ (Q0 1 rfl);refine Run.sub ?_ (Q5 2 rfl rfl (by omega));refine Run.sub ?_ (Q5 3 rfl rfl (by omega));refine Run.sub (s':=⟨18,[49,50,51],[.any,.any,bP b,gP g,.ref 2 0 0,.any,.any,.any,.any,.any,.any,.any,.any,.any,.any,.any,.any,.any],[],[.con 0 20 (Xg (bC b)),.con 0 32 (Xg (gC g)),.row 0 3 (Xg [I 0,.sl 0 0 (fun _=>.any) true,.sl 0 0 (fun _=>.any) true])]⟩) ?_ (Xi rfl (by simp[AS.put,Xm,bP,gP]) trivial rfl);refine XL 15 ?_;simp(disch:=omega)only[↓Xd,wG,seval];refine X1 c1 rfl ?_;simp(disch:=omega)only[qA,qC,↓Xd,wG,seval];have w0:=Zr false;have hz':∀ (H:List AO) (j:Nat),j<4→KR H (Xg lZ j) (Xg (qC 0) j):=fun H j hj=>by
  match j,hj with
  |0,_=>exact KB w0.1
  |1,_=>exact KB w0.2.1
  |2,_=>exact KB w0.2.2.1
  |3,_=>exact KB w0.2.2.2.1
  |j+4,h=>omega
 refine Run.sub (s':=⟨18,[49,50,51],[.any,.any,bP b,gP g,.ref 2 0 0,.ref 3 0 0,.ref 4 0 0,.any,.any,.any,.any,.any,.any,.any,.any,.any,.any,.any],[],[.con 0 20 (Xg (bC b)),.con 0 32 (Xg (gC g)),.row 0 3 (Xg [I 0,.sl 0 0 (fun _=>.any) true,.sl 0 0 (fun _=>.any) true]),.row 0 4 (Xg lZ),.row 0 4 (Xg (qC 1))]⟩) ?_ (Xi rfl (by simp[Xm]) trivial (by rfl));refine Run.sub ?_ (QL 3 (Xg (qC 0)) rfl (hz' _));refine Run.sub ?_ (Q0 3 rfl);refine Run.sub ?_ (Q0 4 rfl);refine Run.sub ?_ (Q5 5 rfl rfl (by omega));refine Run.sub ?_ (Q5 6 rfl rfl (by omega));refine Run.sub (s':=⟨18,[49,50,51],[.any,.any,bP b,gP g,.ref 2 0 0,KY 0,KY 1,.any,.any,.any,.any,.any,.any,.any,.any,.any,.any,.any],[],[.con 0 20 (Xg (bC b)),.con 0 32 (Xg (gC g)),.row 0 3 (Xg [I 0,.sl 0 0 (fun _=>.any) true,.sl 0 0 (fun _=>.any) true]),.con 0 4 (Xg (qC 0)),.con 0 4 (Xg (qC 1))]⟩) ?_ (Xi rfl (by simp[AS.put,Xm,KY]) trivial rfl);refine XL 30 ?_;simp(disch:=omega)only[KY,qA,qC,↓Xd,wG,seval];refine Run.sub (s':=⟨18,[49,50,51],[.any,.any,bP b,gP g,.ref 2 0 0,KY 0,KY 1,.ref 5 0 0,.ref 6 0 0,.any,.any,.any,.any,.any,.any,.any,.any,.any],[],[.con 0 20 (Xg (bC b)),.con 0 32 (Xg (gC g)),.row 0 3 (Xg [I 0,.sl 0 0 (fun _=>.any) true,.sl 0 0 (fun _=>.any) true]),.con 0 4 (Xg (qC 0)),.con 0 4 (Xg (qC 1)),
  .row 0 3 (Xg [I 5,.sl 0 0 (fun _=>.any) true,.sl 5 20 (Xg (goal5.flatMap qC)) false]),.row 0 1 (Xg [.fn 164 [.ref 5 0 0]])]⟩) ?_ (Xi rfl (by exact⟨.inl rfl,.inl rfl,.inr rfl,.inr rfl,.inr rfl,.inr rfl,.inr rfl,.inr rfl,.inr rfl,.inl rfl,.inl rfl,.inl rfl,.inl rfl,.inl rfl,.inl rfl,.inl rfl,.inl rfl,.inl rfl,trivial⟩) trivial (by rfl))
 refine Run.sub ?_ (PC (XA DT 5 Bl []));refine Run.sub ?_ (QL 5 (Xg [I 5,.osl 7 0 5 0 0,Z5 goal5]) rfl (fun j hj=>by
  match j,hj with
  |0,_=>exact XR _ _
  |1,_=>exact DM (f:=XA DT 5 Bl []) (n:=0) rfl
  |2,_=>exact KB (Kp rfl (Nat.le_refl _) fun j hj=>by rw[Ho goal5 j hj];exact Weak.rfl' _)
  |j+3,h=>omega))
 refine Run.sub ?_ (Q0 6 rfl);refine Run.sub (s':=⟨18,[49,50,51],[.any,.any,bP b,gP g,.ref 2 0 0,KY 0,KY 1,.ref 5 0 0,.ref 6 0 0,.any,.any,.any,.any,.any,.any,.any,.any,.any],[],(ZM b g 0 []).take 8⟩) ?_ (Xi rfl (by simp[Xm]) trivial (by rfl));refine XL 29 ?_;have gf:=gF g;have bf:=bF b;simp(disch:=omega)only[ZM,List.take,KG,Aj,gP,gf,Xu,qA,qC,↓Xd,wG,seval];refine X0 cr (X2 _) ?_;simp(disch:=omega)only[ZM,KG,Aj,gP,gf,Xu,qA,qC,↓Xd,wG,seval];refine X0 cl (X2 _) ?_;simp(disch:=omega)only[KG,Aj,qA,qC,↓Xd,wG,seval];refine X1 cm rfl ?_;simp(disch:=omega)only[KG,Aj,qA,qC,↓Xd,wG,seval];have k6:∀n Ls,(ZM b g n Ls)[6]?=some (.con 0 1 (Xg [.fn 164 [.ref 5 0 0]])):=fun _ _=>rfl
 have k8:∀n Ls,(ZM b g n Ls)[8]?=some (.row 0 4 (Xg (qC (-g.rough)))):=fun _ _=>rfl
 have k9:∀n Ls,(ZM b g n Ls)[9]?=some (.row 0 4 (Xg (qC (Jb g.n)))):=fun _ _=>rfl
 have k10:∀n Ls,(ZM b g n Ls)[10]?=some (.row 0 4 (Xg (qC (-1)))):=fun _ _=>rfl
 have k6l:∀n Ls l,(ZM b g n Ls ++ l)[6]?=some (.con 0 1 (Xg [.fn 164 [.ref 5 0 0]])):=fun _ _ _=>rfl
 have k8l:∀n Ls l,(ZM b g n Ls ++ l)[8]?=some (.row 0 4 (Xg (qC (-g.rough)))):=fun _ _ _=>rfl
 have k11l:∀n Ls x l,(ZM b g n Ls ++ x :: l)[11]?=some x:=fun _ _ _ _=>rfl
 have kL:∀n Ls l,(ZM b g n Ls ++ l).length=11+l.length:=fun n Ls l=>by rw[List.length_append];rfl
 have kL0:∀n Ls,(ZM b g n Ls).length=11:=fun n Ls=>rfl
 have ks11:∀n Ls x y l,(ZM b g n Ls ++ x :: l).set 11 y=ZM b g n Ls ++ y :: l:=fun _ _ _ _ _=>rfl
 have kb:=fun n Ls=>Qz (EE b g n Ls)
 have most0:∀ (n:Nat) (Ls:List Ln) (r:Rat) (l:List Rat),Ls.length=n→n<1000→l.length≤5→0<l.length →
   HCall Tryz.prog 164 [qA r,.sl l.length (l.length*4) (Xq fun i=>l.getD i 0) true,.ref 5 0 0] (ZM b g n Ls) (.tup []) (ZM b g (n+1) (Ls ++ [⟨Jw (fun i=>l.getD i 0) l.length,r⟩]))∧JQ (ZM b g n Ls) (ZM b g (n+1) (Ls ++ [⟨Jw (fun i=>l.getD i 0) l.length,r⟩])):=fun n Ls r l e1 e2 e3 e4=>by
  have:=rc b g n l.length Ls r (fun i=>l.getD i 0) e1 e2 e3 e4 [] (fun o ho=>absurd ho (List.not_mem_nil));rw[List.append_nil,List.append_nil]at this;exact this
 obtain⟨ln,hln⟩:∃ln:List Rat→Rat→Ln,ln=fun l r=>⟨Jw (fun i=>l.getD i 0) l.length,r⟩:=⟨_,rfl⟩
 have most1:∀ (n:Nat) (Ls:List Ln) (r:Rat) (l:List Rat),Ls.length=n→n<1000→l.length≤5→0<l.length →
   HCall Tryz.prog 164 [qA r,.sl l.length (l.length*4) (Xq fun i=>l.getD i 0) true,.ref 5 0 0] (ZM b g n Ls) (.tup []) (ZM b g (n+1) (Ls ++ [ln l r]))∧JQ (ZM b g n Ls) (ZM b g (n+1) (Ls ++ [ln l r])):=fun n Ls r l e1 e2 e3 e4=>by rw[hln];exact most0 n Ls r l e1 e2 e3 e4
 have most1l:∀ (n:Nat) (Ls:List Ln) (r:Rat) (l:List Rat) (x:List AO),(∀o∈x,∀q,Qo q o)→Ls.length=n→n<1000→l.length≤5→0<l.length →
   HCall Tryz.prog 164 [qA r,.sl l.length (l.length*4) (Xq fun i=>l.getD i 0) true,.ref 5 0 0] (ZM b g n Ls ++ x) (.tup []) (ZM b g (n+1) (Ls ++ [ln l r]) ++ x)∧JQ (ZM b g n Ls ++ x) (ZM b g (n+1) (Ls ++ [ln l r]) ++ x):=fun n Ls r l x hx e1 e2 e3 e4=>by rw[hln];exact rc b g n l.length Ls r (fun i=>l.getD i 0) e1 e2 e3 e4 x hx
 refine Run.sub (s':=⟨18,[49,50,51],[.any,.any,bP b,gP g,.ref 2 0 0,KY 0,KY 1,.ref 5 0 0,.ref 6 0 0,.ref 8 0 0,.ref 9 0 0,.ref 10 0 0,.any,.any,.any,.any,.any,.any],[],ZM b g 0 []⟩) ?_ (Xi rfl (by exact⟨.inl rfl,.inl rfl,.inr rfl,.inr rfl,.inr rfl,.inr rfl,.inr rfl,.inr rfl,.inr rfl,.inr rfl,.inr rfl,.inr rfl,.inl rfl,.inl rfl,.inl rfl,.inl rfl,.inl rfl,.inl rfl,trivial⟩) trivial (by rfl));refine Xl ?_;simp(disch:=omega)only[k6,k8,k9,k10,KY,qA,qC,↓Xd,wG,seval];have s1:=most1 0 [] (0) [-1] rfl (by omega) (Nat.le_of_ble_eq_true rfl) (Nat.le_of_ble_eq_true rfl);refine XD rfl s1.1 s1.2 (kb _ _) ⟨Weak.rfl' _,Jr [-1] 1 4 _ rfl rfl rfl,Weak.rfl' _,trivial⟩ ?_;simp(disch:=omega)only[k6,k8,k9,k10,KY,gP,bP,gf,bf,qA,qC,↓Xd,wG,seval];have s2:=most1 1 [ln [-1] 0] (0) [0,0,-1] rfl (by omega) (Nat.le_of_ble_eq_true rfl) (Nat.le_of_ble_eq_true rfl);refine XD rfl s2.1 s2.2 (kb _ _) ⟨Weak.rfl' _,Jr [0,0,-1] 3 12 _ rfl rfl rfl,Weak.rfl' _,trivial⟩ ?_;simp(disch:=omega)only[k6,k8,k9,k10,KY,gP,bP,gf,bf,qA,qC,↓Xd,wG,seval];have LI:∃LI:Nat→List Ln,LI 0=[ln [-1] 0,ln [0,0,-1] 0]∧LI 1=[ln [-1] 0,ln [0,0,-1] 0,ln [-g.rough,1] 0,ln [0,0,-g.rough,1] 0]∧LI 2=[ln [-1] 0,ln [0,0,-1] 0,ln [-g.rough,1] 0,ln [0,0,-g.rough,1] 0,ln [-g.rough,-1] 0,ln [0,0,-g.rough,-1] 0]:=⟨fun i=>match i with |0=>[ln [-1] 0,ln [0,0,-1] 0] |1=>[ln [-1] 0,ln [0,0,-1] 0,ln [-g.rough,1] 0,ln [0,0,-g.rough,1] 0] |_=>[ln [-1] 0,ln [0,0,-1] 0,ln [-g.rough,1] 0,ln [0,0,-g.rough,1] 0,ln [-g.rough,-1] 0,ln [0,0,-g.rough,-1] 0],rfl,rfl,rfl⟩
 obtain⟨LI,hL0,hL1,hL2⟩:=LI;rw[←hL0];have bl:∀i,Jo 11 (([.any,.any,bP b,gP g,.ref 2 0 0,KY 0,KY 1,.ref 5 0 0,.ref 6 0 0,.ref 8 0 0,.ref 9 0 0,.ref 10 0 0,.any,.any,.any,.any,.any,.any]:List AV).getD i .any):=fun i=>by
  match i with
  |0=>exact X7 Jm
  |1=>exact X7 Jm
  |2=>exact X7 (XN fun j _=>Xe (C4 b) j)
  |3=>exact X7 (XN fun j _=>Xe (Ka g) j)
  |4=>exact QG (by omega)
  |5=>exact X7 (XN fun j _=>Xe (Jn 0) j)
  |6=>exact X7 (XN fun j _=>Xe (Jn 1) j)
  |7=>exact QG (by omega)
  |8=>exact QG (by omega)
  |9=>exact QG (by omega)
  |10=>exact QG (by omega)
  |11=>exact QG (by omega)
  |12=>exact X7 Jm
  |13=>exact X7 Jm
  |14=>exact X7 Jm
  |15=>exact X7 Jm
  |16=>exact X7 Jm
  |17=>exact X7 Jm
  |i+18=>exact X7 Jm
 have bl2:∀a∈([.any,.any,bP b,gP g,.ref 2 0 0,KY 0,KY 1,.ref 5 0 0,.ref 6 0 0,.ref 8 0 0,.ref 9 0 0,.ref 10 0 0,.any,.any,.any,.any,.any,.any]:List AV),Jo 11 a:=fun a ha=>by
  obtain⟨i,hi,rfl⟩:=List.getElem_of_mem ha;have:=bl i;rwa[List.getD_eq_getElem?_getD,List.getElem?_eq_getElem hi]at this
 have bs:Jo 11 (.sl 2 8 (Xg (qC 1 ++ qC (-1))) true)=True:=eq_true (X7 (Qk fun j _=>Xe (l:=qC 1 ++ qC (-1)) (by simp[qC,Xc,X5]) j));have cx:∀x:Rat,∀o∈[AO.row 0 4 (Xg (qC x))],∀q,Qo q o:=fun x o ho q=>by rw[List.mem_singleton.1 ho];exact EC _ _ _
 have cxu:∀ (x:Rat) n Ls,QV (ZM b g n Ls ++ [AO.row 0 4 (Xg (qC x))]):=fun x n Ls=>Kg (EE b g n Ls) fun o ho=>by rw[List.mem_singleton.1 ho];simp
 refine Xj (fun i:Nat=>⟨18,[49,50,51],[.any,.any,bP b,gP g,.ref 2 0 0,KY 0,KY 1,.ref 5 0 0,.ref 6 0 0,.ref 8 0 0,.ref 9 0 0,.ref 10 0 0,.any,.any,.any,.any,.any,.any],[(49,.sl 2 8 (Xg (qC 1 ++ qC (-1))) true),(50,I 2),(51,I i)],ZM b g (2+2*i) (LI i)⟩) (fun i=>i≤2) (fun i=>2-i) 0 (by omega)
  (Xi rfl ⟨.inl rfl,.inl rfl,.inr rfl,.inr rfl,.inr rfl,.inr rfl,.inr rfl,.inr rfl,.inr rfl,.inr rfl,.inr rfl,.inr rfl,.inl rfl,.inl rfl,.inl rfl,.inl rfl,.inl rfl,.inl rfl,trivial⟩ (by exact⟨.inr rfl,.inr rfl,.inr rfl,trivial⟩) (by rfl)) ?_
 intro i hi next
 match i,hi with
 |0,_ =>
  have nx:=next 1
  refine Xl ?_;simp(disch:=omega)only[k6l,k8l,k11l,kL,kL0,ks11,KY,gP,bP,qA,qC,List.append_assoc,↓Xd,wG,seval];have u00:=most1l 2 (LI 0) 0 [-g.rough,1] [.row 0 4 (Xg (qC (1)))] (cx _) (by rw[hL0];rfl) (by omega) (Nat.le_of_ble_eq_true rfl) (Nat.le_of_ble_eq_true rfl);refine XD rfl u00.1 u00.2 (Qz (cxu _ _ _)) ⟨Weak.rfl' _,Jr [-g.rough,1] 2 8 _ rfl rfl rfl,Weak.rfl' _,trivial⟩ ?_;simp(disch:=omega)only[k6l,k8l,k11l,kL,kL0,ks11,KY,gP,bP,qA,qC,List.append_assoc,↓Xd,wG,seval];have u01:=most1l 3 (LI 0 ++ [ln [-g.rough,1] 0]) 0 [0,0,-g.rough,1] [.row 0 4 (Xg (qC (1)))] (cx _) (by rw[hL0];rfl) (by omega) (Nat.le_of_ble_eq_true rfl) (Nat.le_of_ble_eq_true rfl);refine XD rfl u01.1 u01.2 (Qz (cxu _ _ _)) ⟨Weak.rfl' _,Jr [0,0,-g.rough,1] 4 16 _ rfl rfl rfl,Weak.rfl' _,trivial⟩ ?_;simp(disch:=omega)only[k6l,k8l,k11l,kL,kL0,ks11,KY,gP,bP,qA,qC,List.append_assoc,↓Xd,wG,seval];refine nx _ (by omega) (by omega) (XQ (m:=11) (Nat.zero_le _) rfl ⟨.inl rfl,.inl rfl,.inr rfl,.inr rfl,.inr rfl,.inr rfl,.inr rfl,.inr rfl,.inr rfl,.inr rfl,.inr rfl,.inr rfl,.inl rfl,.inl rfl,.inl rfl,.inl rfl,.inl rfl,.inl rfl,trivial⟩ (by exact⟨.inr rfl,.inr rfl,.inr rfl,trivial⟩) (by rw[hL1];simp only[hL0];rfl) bl2 (by simp[XO,bs]) (fun o ho=>G0 b g _ _ o ho _ (Nat.le_refl _)))
 |1,_ =>
  have nx:=next 2
  refine Xl ?_;simp(disch:=omega)only[k6l,k8l,k11l,kL,kL0,ks11,KY,gP,bP,qA,qC,List.append_assoc,↓Xd,wG,seval];have u10:=most1l 4 (LI 1) 0 [-g.rough,-1] [.row 0 4 (Xg (qC (-1)))] (cx _) (by rw[hL1];rfl) (by omega) (Nat.le_of_ble_eq_true rfl) (Nat.le_of_ble_eq_true rfl);refine XD rfl u10.1 u10.2 (Qz (cxu _ _ _)) ⟨Weak.rfl' _,Jr [-g.rough,-1] 2 8 _ rfl rfl rfl,Weak.rfl' _,trivial⟩ ?_;simp(disch:=omega)only[k6l,k8l,k11l,kL,kL0,ks11,KY,gP,bP,qA,qC,List.append_assoc,↓Xd,wG,seval];have u11:=most1l 5 (LI 1 ++ [ln [-g.rough,-1] 0]) 0 [0,0,-g.rough,-1] [.row 0 4 (Xg (qC (-1)))] (cx _) (by rw[hL1];rfl) (by omega) (Nat.le_of_ble_eq_true rfl) (Nat.le_of_ble_eq_true rfl);refine XD rfl u11.1 u11.2 (Qz (cxu _ _ _)) ⟨Weak.rfl' _,Jr [0,0,-g.rough,-1] 4 16 _ rfl rfl rfl,Weak.rfl' _,trivial⟩ ?_;simp(disch:=omega)only[k6l,k8l,k11l,kL,kL0,ks11,KY,gP,bP,qA,qC,List.append_assoc,↓Xd,wG,seval];refine nx _ (by omega) (by omega) (XQ (m:=11) (Nat.zero_le _) rfl ⟨.inl rfl,.inl rfl,.inr rfl,.inr rfl,.inr rfl,.inr rfl,.inr rfl,.inr rfl,.inr rfl,.inr rfl,.inr rfl,.inr rfl,.inl rfl,.inl rfl,.inl rfl,.inl rfl,.inl rfl,.inl rfl,trivial⟩ (by exact⟨.inr rfl,.inr rfl,.inr rfl,trivial⟩) (by rw[hL2];simp only[hL1];rfl) bl2 (by simp[XO,bs]) (fun o ho=>G0 b g _ _ o ho _ (Nat.le_refl _)))
 |2,_ =>
  clear next
  have k12l:∀n Ls x y l,(ZM b g n Ls ++ x :: y :: l)[12]?=some y:=fun _ _ _ _ _=>rfl
  have k13l:∀n Ls x y z l,(ZM b g n Ls ++ x :: y :: z :: l)[13]?=some z:=fun _ _ _ _ _ _=>rfl
  have ks12:∀n Ls x y w l,(ZM b g n Ls ++ x :: y :: l).set 12 w=ZM b g n Ls ++ x :: w :: l:=fun _ _ _ _ _ _=>rfl
  have ks13:∀n Ls x y z w l,(ZM b g n Ls ++ x :: y :: z :: l).set 13 w=ZM b g n Ls ++ x :: y :: w :: l:=fun _ _ _ _ _ _ _=>rfl
  refine XL 144 ?_;simp(disch:=omega)only[k6,k8,k9,k10,KY,gP,bP,gf,bf,qA,qC,↓Xd,wG,seval];have v0:=most1 6 (LI 2) (g.force) [Jb g.n] (by rw[hL2];rfl) (by omega) (Nat.le_of_ble_eq_true rfl) (Nat.le_of_ble_eq_true rfl);refine XD rfl v0.1 v0.2 (kb _ _) ⟨Weak.rfl' _,Jr [Jb g.n] 1 4 _ rfl rfl rfl,Weak.rfl' _,trivial⟩ ?_;simp(disch:=omega)only[k6,k8,k9,k10,KY,gP,bP,gf,bf,qA,qC,List.append_assoc,↓Xd,wG,seval];have v1:=most1 7 (LI 2 ++ [ln [Jb g.n] g.force]) (g.force) [0,0,Jb g.n] (by rw[hL2];rfl) (by omega) (Nat.le_of_ble_eq_true rfl) (Nat.le_of_ble_eq_true rfl);simp only[List.append_assoc,List.cons_append,List.nil_append]at v1;refine XD rfl v1.1 v1.2 (kb _ _) ⟨Weak.rfl' _,Jr [0,0,Jb g.n] 3 12 _ rfl rfl rfl,Weak.rfl' _,trivial⟩ ?_;simp(disch:=omega)only[k6,k8,k9,k10,KY,gP,bP,gf,bf,qA,qC,List.append_assoc,↓Xd,wG,seval];have v2:=most1 8 (LI 2 ++ [ln [Jb g.n] g.force,ln [0,0,Jb g.n] g.force]) (b.strength) [Jb g.n,0,Jb g.n] (by rw[hL2];rfl) (by omega) (Nat.le_of_ble_eq_true rfl) (Nat.le_of_ble_eq_true rfl);simp only[List.append_assoc,List.cons_append,List.nil_append]at v2;refine XD rfl v2.1 v2.2 (kb _ _) ⟨Weak.rfl' _,Jr [Jb g.n,0,Jb g.n] 3 12 _ rfl rfl rfl,Weak.rfl' _,trivial⟩ ?_;simp(disch:=omega)only[k6,k8,k9,k10,KY,gP,bP,gf,bf,qA,qC,List.append_assoc,↓Xd,wG,seval];refine X1 c16 rfl ?_;simp(disch:=omega)only[k6,k8,k9,k10,KY,gP,bP,gf,bf,qA,qC,↓Xd,wG,seval];have v3:=most1 9 (LI 2 ++ [ln [Jb g.n] g.force,ln [0,0,Jb g.n] g.force,ln [Jb g.n,0,Jb g.n] b.strength]) (16) [0,0,0,0,1] (by rw[hL2];rfl) (by omega) (Nat.le_of_ble_eq_true rfl) (Nat.le_of_ble_eq_true rfl);simp only[List.append_assoc,List.cons_append,List.nil_append]at v3;refine XD rfl v3.1 v3.2 (kb _ _) ⟨Weak.rfl' _,Jr [0,0,0,0,1] 5 20 _ rfl rfl rfl,Weak.rfl' _,trivial⟩ ?_;simp(disch:=omega)only[k6,k8,k9,k10,KY,gP,bP,gf,bf,qA,qC,List.append_assoc,↓Xd,wG,seval];have v4:=most1 10 (LI 2 ++ [ln [Jb g.n] g.force,ln [0,0,Jb g.n] g.force,ln [Jb g.n,0,Jb g.n] b.strength,ln [0,0,0,0,1] 16]) (0) [0,0,0,0,-1] (by rw[hL2];rfl) (by omega) (Nat.le_of_ble_eq_true rfl) (Nat.le_of_ble_eq_true rfl);simp only[List.append_assoc,List.cons_append,List.nil_append]at v4;refine XD rfl v4.1 v4.2 (kb _ _) ⟨Weak.rfl' _,Jr [0,0,0,0,-1] 5 20 _ rfl rfl rfl,Weak.rfl' _,trivial⟩ ?_;simp(disch:=omega)only[k6,k8,k9,k10,KY,gP,bP,gf,bf,qA,qC,List.append_assoc,↓Xd,wG,seval];refine X0 cq (X2 _) ?_;simp(disch:=omega)only[k6,k8,k9,k10,KY,gP,bP,gf,bf,qA,qC,vC,vA,↓Xd,wG,seval];refine X0 cp (X2 _) ?_;simp(disch:=omega)only[k6,k8,k9,k10,KY,gP,bP,gf,bf,qA,qC,vC,vA,↓Xd,wG,seval];refine X0 cs (X2 _) ?_;simp(disch:=omega)only[k6,k8,k9,k10,KY,gP,bP,gf,bf,qA,qC,vC,vA,kL0,k11l,k12l,k13l,ks11,ks12,ks13,↓Xd,wG,seval];obtain⟨LL,hLL⟩:∃LL,LL=LI 2 ++ [ln [Jb g.n] g.force,ln [0,0,Jb g.n] g.force,ln [Jb g.n,0,Jb g.n] b.strength,ln [0,0,0,0,1] 16,ln [0,0,0,0,-1] 0]:=⟨_,rfl⟩
  have hLn:LL.length=11:=by rw[hLL,hL2];rfl
  rw[←hLL];obtain⟨tt,htt⟩:∃t,t=g.n.turned:=⟨_,rfl⟩
  obtain⟨tp,htp⟩:∃t,t=g.p.sub b.c:=⟨_,rfl⟩
  obtain⟨tq,htq⟩:∃t,t=g.q.sub b.c:=⟨_,rfl⟩
  rw[←htt,←htp,←htq];refine Run.sub (s':=⟨18,[49,50,51],[.any,.any,bP b,gP g,.ref 2 0 0,KY 0,KY 1,.ref 5 0 0,.ref 6 0 0,.any,.any,.any,.any,.any,.ref 11 0 0,.ref 12 0 0,.ref 13 0 0,.any],[],ZM b g 11 LL ++ [.row 0 8 (Xg (vC tt)),.row 0 8 (Xg (vC tp)),.row 0 8 (Xg (vC tq))]⟩) ?_ (Xi rfl (by exact⟨.inl rfl,.inl rfl,.inr rfl,.inr rfl,.inr rfl,.inr rfl,.inr rfl,.inr rfl,.inr rfl,.inl rfl,.inl rfl,.inl rfl,.inl rfl,.inl rfl,.inr rfl,.inr rfl,.inr rfl,.inl rfl,trivial⟩) trivial (by rfl));refine Run.sub ?_ (Q0 11 rfl);refine Run.sub ?_ (Q0 12 rfl);refine Run.sub ?_ (Q0 13 rfl);refine Run.sub ?_ (Q5 14 rfl rfl (by omega));refine Run.sub ?_ (Q5 15 rfl rfl (by omega));refine Run.sub ?_ (Q5 16 rfl rfl (by omega));refine Run.sub (s':=⟨18,[49,50,51],[.any,.any,bP b,gP g,.ref 2 0 0,KY 0,KY 1,.ref 5 0 0,.ref 6 0 0,.any,.any,.any,.any,.any,.ptr 8 (Xg (vC tt)) 0,.ptr 8 (Xg (vC tp)) 0,.ptr 8 (Xg (vC tq)) 0,.any],[],ZM b g 11 LL ++ [.con 0 8 (Xg (vC tt)),.con 0 8 (Xg (vC tp)),.con 0 8 (Xg (vC tq))]⟩) ?_ (Xi rfl (by simp[AS.put,Xm,KY]) trivial rfl);obtain⟨X3,hX3⟩:∃X:List AO,X=[.con 0 8 (Xg (vC tt)),.con 0 8 (Xg (vC tp)),.con 0 8 (Xg (vC tq))]:=⟨_,rfl⟩
  have xb:∀o∈X3,(∀q,Qo q o)∧o≠.unborn:=fun o ho=>by
   rw[hX3]at ho;simp only[List.mem_cons,List.not_mem_nil,or_false]at ho;rcases ho with rfl |rfl |rfl <;> exact⟨fun q j _=>X7 (Xe (by simp[vC,Xc,X5]) j),by simp⟩
  have xl:∀n Ls,(ZM b g n Ls ++ X3).length=14:=fun n Ls=>by rw[List.length_append,hX3];rfl
  have kx:∀n Ls,QV (ZM b g n Ls ++ X3):=fun n Ls=>Kg (EE b g n Ls) fun o ho=>(xb o ho).2
  have k6x:∀n Ls,(ZM b g n Ls ++ X3)[6]?=some (.con 0 1 (Xg [.fn 164 [.ref 5 0 0]])):=fun _ _=>rfl
  rw[←hX3];have eq1:∀ (n:Nat) (Ls:List Ln) (l:List Rat),Ls.length=n→n<1000→l.length≤5→0<l.length →
    HCall Tryz.prog 167 [.sl l.length (l.length*4) (Xq fun i=>l.getD i 0) true,.ref 6 0 0,KY 0] (ZM b g n Ls ++ X3) (.tup []) (ZM b g (n+2) (Ls ++ [ln l 0] ++ [ln (l.map fun r=>-r) 0]) ++ X3)∧JQ (ZM b g n Ls ++ X3) (ZM b g (n+2) (Ls ++ [ln l 0] ++ [ln (l.map fun r=>-r) 0]) ++ X3):=fun n Ls l e1 e2 e3 e4=>by
   have:=ti b g n l.length Ls (fun i=>l.getD i 0) e1 e2 e3 e4 X3 xb;have ep:ln (l.map fun r=>-r) 0=⟨Jw (fun i=>-l.getD i 0) l.length,0⟩:=by
    rw[hln];simp only[List.length_map];congr 1;unfold Jw;refine List.map_congr_left fun i _=>?_
    by_cases h:i<l.length
    ·simp[h]
    ·simp[h]
   rw[ep,hln];exact this
  refine Xl ?_;simp(disch:=omega)only[k6x,KY,gP,bP,gf,bf,qA,qC,vC,vA,xl,↓Xd,wG,seval];refine X0 (JX g.n.x) (X2 _) ?_;simp(disch:=omega)only[k6x,KY,gP,bP,gf,bf,qA,qC,vC,vA,xl,↓Xd,wG,seval];refine X0 (JX tt.x) (X2 _) ?_;simp(disch:=omega)only[k6x,KY,gP,bP,gf,bf,qA,qC,vC,vA,xl,↓Xd,wG,seval];have e1:=eq1 11 LL [g.n.x,tt.x,-g.n.x,-tt.x] hLn (by omega) (Nat.le_of_ble_eq_true rfl) (Nat.le_of_ble_eq_true rfl);refine XD rfl e1.1 e1.2 (Qz (kx _ _)) ⟨Jr [g.n.x,tt.x,-g.n.x,-tt.x] 4 16 _ rfl rfl rfl,Weak.rfl' _,Weak.rfl' _,trivial⟩ ?_;simp(disch:=omega)only[k6x,KY,gP,bP,gf,bf,qA,qC,vC,vA,xl,↓Xd,wG,seval];refine X0 (JX g.n.y) (X2 _) ?_;simp(disch:=omega)only[k6x,KY,gP,bP,gf,bf,qA,qC,vC,vA,xl,↓Xd,wG,seval];refine X0 (JX tt.y) (X2 _) ?_;simp(disch:=omega)only[k6x,KY,gP,bP,gf,bf,qA,qC,vC,vA,xl,↓Xd,wG,seval];refine X0 (JX b.heavy) (X2 _) ?_;simp(disch:=omega)only[k6x,KY,gP,bP,gf,bf,qA,qC,vC,vA,xl,↓Xd,wG,seval];have e2:=eq1 13 (LL ++ [ln [g.n.x,tt.x,-g.n.x,-tt.x] 0] ++ [ln [-g.n.x,-tt.x,- -g.n.x,- -tt.x] 0]) [g.n.y,tt.y,-g.n.y,-tt.y,-b.heavy] (by simp[hLn]) (by omega) (Nat.le_of_ble_eq_true rfl) (Nat.le_of_ble_eq_true rfl);refine XD rfl e2.1 e2.2 (Qz (kx _ _)) ⟨Jr [g.n.y,tt.y,-g.n.y,-tt.y,-b.heavy] 5 20 _ rfl rfl rfl,Weak.rfl' _,Weak.rfl' _,trivial⟩ ?_;simp(disch:=omega)only[k6x,KY,gP,bP,gf,bf,qA,qC,vC,vA,xl,↓Xd,wG,seval];have bt:vb tt≤1400:=by rw[htt,D5];exact h4
  have bp:vb tp≤2801:=by have:=QX g.p b.c;rw[htp];omega
  have bq:vb tq≤2801:=by have:=QX g.q b.c;rw[htq];omega
  have w1:=AD tp g.n (by unfold vm;omega) (by unfold vm;omega);have w2:=AD tp tt (by unfold vm;omega) (by unfold vm;omega);have w3:=AD tq g.n (by unfold vm;omega) (by unfold vm;omega);have w4:=AD tq tt (by unfold vm;omega) (by unfold vm;omega);refine X0 w1 (X2 _) ?_;simp(disch:=omega)only[k6x,KY,gP,bP,gf,bf,qA,qC,vC,vA,xl,↓Xd,wG,seval];refine X0 w2 (X2 _) ?_;simp(disch:=omega)only[k6x,KY,gP,bP,gf,bf,qA,qC,vC,vA,xl,↓Xd,wG,seval];refine X0 w3 (X2 _) ?_;simp(disch:=omega)only[k6x,KY,gP,bP,gf,bf,qA,qC,vC,vA,xl,↓Xd,wG,seval];refine X0 (JX _) (X2 _) ?_;simp(disch:=omega)only[k6x,KY,gP,bP,gf,bf,qA,qC,vC,vA,xl,↓Xd,wG,seval];refine X0 w4 (X2 _) ?_;simp(disch:=omega)only[k6x,KY,gP,bP,gf,bf,qA,qC,vC,vA,xl,↓Xd,wG,seval];refine X0 (JX _) (X2 _) ?_;simp(disch:=omega)only[k6x,KY,gP,bP,gf,bf,qA,qC,vC,vA,xl,↓Xd,wG,seval];have e3:=eq1 15 (LL ++ [ln [g.n.x,tt.x,-g.n.x,-tt.x] 0] ++ [ln [-g.n.x,-tt.x,- -g.n.x,- -tt.x] 0] ++ [ln [g.n.y,tt.y,-g.n.y,-tt.y,-b.heavy] 0] ++ [ln [-g.n.y,-tt.y,- -g.n.y,- -tt.y,- -b.heavy] 0]) [Xp tp g.n,Xp tp tt,-Xp tq g.n,-Xp tq tt] (by simp[hLn]) (by omega) (Nat.le_of_ble_eq_true rfl) (Nat.le_of_ble_eq_true rfl);refine XD rfl e3.1 e3.2 (Qz (kx _ _)) ⟨Jr [Xp tp g.n,Xp tp tt,-Xp tq g.n,-Xp tq tt] 4 16 _ rfl rfl rfl,Weak.rfl' _,Weak.rfl' _,trivial⟩ ?_;have k2x:∀n Ls,(ZM b g n Ls ++ X3)[2]?=some (.row 0 3 (Xg [I 0,.sl 0 0 (fun _=>.any) true,.sl 0 0 (fun _=>.any) true])):=fun _ _=>rfl
  have k5x:∀n Ls,(ZM b g n Ls ++ X3)[5]?=some (KG 7 n goal5):=fun _ _=>rfl
  simp(disch:=omega)only[k6x,k2x,k5x,KG,KY,gP,bP,gf,bf,qA,qC,vC,vA,xl,↓Xd,wG,seval];refine⟨rfl,?_⟩;have hF:LL ++ [ln [g.n.x,tt.x,-g.n.x,-tt.x] 0] ++ [ln [-g.n.x,-tt.x,- -g.n.x,- -tt.x] 0] ++ [ln [g.n.y,tt.y,-g.n.y,-tt.y,-b.heavy] 0] ++ [ln [-g.n.y,-tt.y,- -g.n.y,- -tt.y,- -b.heavy] 0] ++ [ln [Xp tp g.n,Xp tp tt,-Xp tq g.n,-Xp tq tt] 0] ++ [ln [-Xp tp g.n,-Xp tp tt,- -Xp tq g.n,- -Xp tq tt] 0]=Jj b g:=by
   rw[hLL,hL2,hln,htt,htp,htq];rfl
  refine ZC (L:=[I 5,.osl 7 17 5 0 17,Z5 goal5]) rfl r5 rfl rfl rfl ?_;rw[hR];refine GF ⟨Qa (Xa _) rfl,?_,Qa (Qf _) rfl,trivial⟩;refine ZR (m:=85) (M:=85) (ver:=17) (f:=XA DT 5 Bl (Jj b g)) (.inl ?_) (by omega) (by omega) fun j hj=>?_
  ·rw[←hF];rfl
  ·rw[Nat.zero_add]
   exact(Xe (A9 _) _).sees _
 |i+3,h=>omega
def Pw:RQ:=RQ.of 0
def ry (l:List RQ):AV:=cS RQ.L 4 Pw l
theorem Cn (l:List RQ):ry l=.sl l.length (l.length*4) (XA RQ.L 4 Pw l) false:=nrfl rfl
theorem SU (x:RQ):∀a∈x.L,Settled a:=by simp[RQ.L,Xc,X5]
theorem Et (l:List RQ):Settled (ry l):=JZ fun a x hx=>SU a x hx
theorem xZ (l:List RQ)(i:Nat):XA RQ.L 4 Pw l (i*4)=.bool (l.getD i Pw).pn∧XA RQ.L 4 Pw l (i*4+1)=X8 (l.getD i Pw).pd∧XA RQ.L 4 Pw l (i*4+2)=.bool (l.getD i Pw).qn∧XA RQ.L 4 Pw l (i*4+3)=X8 (l.getD i Pw).qd:=by
 refine⟨?_,?_,?_,?_⟩
 ·rw[Km _ _ _ _ _ (by omega)];rfl
 all_goals rw[JK _ _ _ _ _ _ (by omega)];rfl
theorem aJ (s:List RQ)(f:FuncId)(caps:List AV)(p:RQ→Bool)(hl:s.length<1000000)(hc:∀ a∈caps,Settled a)(hp:∀x∈s,Fn Tryz.prog f ([x.A] ++ caps) (.bool (p x))) :
  Fn Tryz.prog 205 [ry s,.fn f caps] (I (Io p s)):=by
 refine Fn.intro (fn:=Tryz.f205) Tryz.call205 Tryz.func205 rfl mixed 6 [6,7,8] [] [] (by kernel_rfl) (Nat.le_of_ble_eq_true rfl) (Kd (Et s) (JI hc)) (Xl ?_);simp(disch:=omega)only[AS.start,Cn,↓Xd,wG,seval];refine Xj (fun j:Nat=>⟨6,[6,7,8],[ry s,.fn f caps,.any,.any,.any,.any],[(6,ry s),(7,I s.length),(8,I j)],[]⟩) (fun j=>j≤s.length∧∀i,i<j→p (s.getD i Pw)=false) (fun j=>s.length-j) 0 ⟨by omega,by omega⟩
  (Xi rfl (by simp[Xm,I,Cn]) (by simp[Xy,Xz,I,Cn]) rfl) ?_
 rintro j ⟨hj,hno⟩ next
 by_cases h:j<s.length
 ·obtain⟨l1,l2,l3,l4⟩:=xZ s j
  have c1:=hp _ (QC Pw h);refine Xl ?_;simp(disch:=omega)only[Cn,l1,l2,l3,l4,↓Xd,wG,seval];refine X0 c1 (X2 _) ?_;simp(disch:=omega)only[↓Xd,wG,seval];refine Qe (fun ht=>Xk (v:=I j) rfl rfl (Xa _) ?_) (fun hf=>next (j+1) _ ⟨by omega,fun i hi=>?_⟩ (by omega) (Xi rfl ?_ ?_ rfl))
  ·rw[M7 Pw h ht hno]
  ·by_cases e:i=j
   ·rw[e];exact hf
   ·exact hno i (by omega)
  ·simp[Xm,I,Cn]
  ·simp[Xy,Xz,I,Cn]
 ·obtain rfl:j=s.length:=by omega
  refine Xl ?_;simp(disch:=omega)only[Cn,↓Xd,wG,seval];exact Xk (v:=I (-1)) rfl rfl (Xa _) (by rw[Hs Pw fun i hi=>hno i hi])
theorem P2 (s:List RQ)(f:FuncId)(caps:List AV)(p:RQ→Bool)(hl:s.length<1000000)(hc:∀ a∈caps,Settled a)(hp:∀x∈s,Fn Tryz.prog f ([x.A] ++ caps) (.bool (p x))) :
  Fn Tryz.prog 177 [ry s,.fn f caps] (.bool (s.any p)):=by
 refine Fn.intro (fn:=Tryz.f177) Tryz.call177 Tryz.func177 rfl mixed 4 [] [] [] (by kernel_rfl) (Nat.le_of_ble_eq_true rfl) (Kd (Et s) (JI hc)) (Xl ?_);simp(disch:=omega)only[AS.start,↓Xd,wG,seval];refine X0 (aJ s f caps p hl hc hp) (X2 _) ?_;simp(disch:=omega)only[↓Xd,wG,seval];exact Xk (v:=.bool (decide (0≤Io p s))) rfl rfl (X5 _) (by rw[M6])
theorem Ux (x:RQ)(hx:x.sz<1000000000):Fn Tryz.prog 178 [x.A] (.bool (!decide x.ok)):=by
 refine Fn.intro (fn:=Tryz.f178) Tryz.call178 Tryz.func178 rfl mixed 2 [] [] [] (by kernel_rfl) (Nat.le_of_ble_eq_true rfl) (fun a ha=>List.mem_singleton.1 ha▸C3 x) (Xl ?_);simp(disch:=omega)only[AS.start,RQ.A,RQ.L,↓Xd,wG,seval];refine X0 (F0 x hx) (X2 _) ?_;simp(disch:=omega)only[↓Xd,wG,seval];exact Xk rfl rfl (X5 _) rfl
theorem NO (s:List RQ)(hl:s.length<1000000)(hx:∀x∈s,x.sz<1000000000):Fn Tryz.prog 98 [ry s] (.bool (s.all fun x=>decide x.ok)):=by
 refine Fn.intro (fn:=Tryz.f98) Tryz.call98 Tryz.func98 rfl mixed 2 [] [] [] (by kernel_rfl) (Nat.le_of_ble_eq_true rfl) (fun a ha=>List.mem_singleton.1 ha▸Et s) (Xl ?_);simp(disch:=omega)only[AS.start,↓Xd,wG,seval];refine X0 (P2 s 178 [] (fun x=>!decide x.ok) hl (by simp) fun x h=>Ux x (hx x h)) (X2 _) ?_;simp(disch:=omega)only[↓Xd,wG,seval];exact Xk rfl rfl (X5 _) (congrArg AV.bool (by rw[List.not_any_eq_all_not];simp))
theorem rk (r:Rat):(RQ.of r).ok:=⟨r,rfl⟩
theorem DV (r:Rat)(h:qb r≤rm):(RQ.of r).sz<1000000000:=by
 have:=RQ.of_sz r;unfold rm at h;omega
theorem Ge (l:List Rat)(hl:l.length<1000000)(hx:∀r∈l,qb r≤rm):Fn Tryz.prog 98 [Z5 l] (.bool true):=by
 have:=NO (l.map RQ.of) (by simpa using hl) (fun x h=>by obtain⟨r,hr,rfl⟩:=List.mem_map.1 h;exact DV r (hx r hr));have e:ry (l.map RQ.of)=Z5 l:=by
  rw[Cn,XX,List.length_map];congr 1;funext j;unfold XA Xq;rw[show(l.map RQ.of).getD (j/4) Pw=RQ.of (l.getD (j/4) 0)by rw[Pw,List.getD_eq_getElem?_getD,List.getElem?_map,List.getD_eq_getElem?_getD,Option.getD_map]];rfl
 rw[e]at this;have e2:((l.map RQ.of).all fun x=>decide x.ok)=true:=by
  rw[List.all_eq_true];intro x h;obtain⟨r,hr,rfl⟩:=List.mem_map.1 h;exact decide_eq_true (rk r)
 rw[e2]at this;exact this
theorem C6 (r:Rat):(0<r.num.sign)=(0<r):=propext (by rw[Int.sign_pos_iff,Rat.lt_iff];simp)
theorem Cr (r:Rat):(0≤r.num.sign)=(0≤r):=propext (by rw[Int.sign_nonneg_iff,Rat.num_nonneg])
def Bb (f r:Rat):Bool:=decide (0<f∧0≤r∧r≤4)
theorem Fa (l:List Rat)(n m:Nat)(L:List AV)(hL:L=l.flatMap qC)(hn:n=l.length)(hm:m=l.length*4):Weak (.sl n m (Xg L) true) (Z5 l):=by
 subst hn hm hL;rw[XX];exact Kp rfl (Nat.le_refl _) fun j hj=>by rw[Ho l j hj];exact Weak.rfl' _
theorem LR (f r:Rat)(h1:qb f≤rm)(h2:qb r≤rm):Fn Tryz.prog 113 [qA f,qA r] (.bool (Bb f r)):=by
 have c1:=Ge [f,r] (by simp) (by simp[h1,h2]);have c2:=Qj f;have c3:=Qj r;have c4:=Cy 4 1 ⟨by omega,by omega⟩ ⟨by omega,by omega⟩;rw[show Rat.divInt 4 1=4 by decide +kernel]at c4;have c5:=QZ r 4 h2 (by decide +kernel);refine Fn.intro (fn:=Tryz.f113) Tryz.call113 Tryz.func113 rfl mixed 4 [] [] [] (by kernel_rfl) (Nat.le_of_ble_eq_true rfl) (Kd (Xb f) (Xb r)) (Xl ?_);simp(disch:=omega)only[AS.start,qA,qC,↓Xd,wG,seval];refine X0 c1 ⟨Fa [f,r] _ _ _ rfl rfl rfl,trivial⟩ ?_;simp(disch:=omega)only[↓Xd,wG,seval];refine X0 c2 (X2 _) ?_;simp(disch:=omega)only[C6,Cr,↓Xd,wG,seval];refine⟨fun h=>?_,fun h=>?_⟩
 ·refine X0 c3 (X2 _) ?_
  simp(disch:=omega)only[h,C6,Cr,↓Xd,wG,seval];refine⟨fun h2=>?_,fun h2=>?_⟩
  ·refine X1 c4 rfl ?_
   simp(disch:=omega)only[h,h2,qA,qC,↓Xd,wG,seval];refine X0 c5 (X2 _) ?_;simp(disch:=omega)only[h,h2,↓Xd,wG,seval];exact Xk (v:=.bool (decide (BV r 4≤0))) rfl rfl (X5 _) (congrArg AV.bool (by unfold Bb;exact decide_eq_decide.2 (by rw[Zl];simp[h,h2])))
  ·exact Xk (v:=.bool false) rfl rfl (X5 _) (by simp[Bb,h,h2])
 ·exact Xk (v:=.bool false) rfl rfl (X5 _) (by simp[Bb,h])
def B7 (b:BB):Bool:=decide (0<b.light∧b.light≤b.heavy∧0<b.strength)
def Kh (g:GG):Bool:=Bb g.force g.rough && decide (0<Jb g.n)
def xg (b:BB):Prop:=vb b.c≤rm∧qb b.light≤rm∧qb b.heavy≤rm∧qb b.strength≤rm
def wZ (g:GG):Prop:=vb g.p≤rm∧vb g.q≤rm∧vb g.n≤rm∧qb g.force≤rm∧qb g.rough≤rm
theorem LO (b:BB)(hb:xg b):Fn Tryz.prog 83 [bA b] (.bool (B7 b)):=by
 obtain⟨h1,h2,h3,h4⟩:=hb;have:=QS b.c;have:=QN b.c;have c1:=Ge [b.c.x,b.c.y,b.light,b.heavy,b.strength] (by simp) (by simp only[List.mem_cons,List.not_mem_nil,or_false];rintro r (rfl |rfl |rfl |rfl |rfl) <;> omega);have c2:=Qj b.light;have c3:=QZ b.light b.heavy h2 h3;have c4:=Qj b.strength;refine Fn.intro (fn:=Tryz.f83) Tryz.call83 Tryz.func83 rfl mixed 2 [] [] [] (by kernel_rfl) (Nat.le_of_ble_eq_true rfl) (fun a ha=>List.mem_singleton.1 ha▸AL b) (Xl ?_);have bf:=bF b;simp(disch:=omega)only[AS.start,bA,JL,Xu,↓Xd,wG,seval];refine X0 c1 ⟨Fa [b.c.x,b.c.y,b.light,b.heavy,b.strength] _ _ _ rfl rfl rfl,trivial⟩ ?_;simp(disch:=omega)only[↓Xd,wG,seval];refine X0 c2 (X2 _) ?_;simp(disch:=omega)only[C6,↓Xd,wG,seval];refine⟨fun h=>?_,fun h=>?_⟩
 ·refine X0 c3 (X2 _) ?_
  simp(disch:=omega)only[h,Zl,↓Xd,wG,seval];refine⟨fun h2=>?_,fun h2=>?_⟩
  ·refine X0 c4 (X2 _) ?_
   simp(disch:=omega)only[h,h2,C6,↓Xd,wG,seval];exact Xk (v:=.bool (decide (0<b.strength))) rfl rfl (X5 _) (by simp[B7,h,h2])
  ·exact Xk (v:=.bool false) rfl rfl (X5 _) (by simp[B7,h,h2])
 ·exact Xk (v:=.bool false) rfl rfl (X5 _) (by simp[B7,h])
theorem LQ (g:GG)(hg:wZ g):Fn Tryz.prog 63 [gA g] (.bool (Kh g)):=by
 obtain⟨h1,h2,h3,h4,h5⟩:=hg;have:=QS g.p;have:=QN g.p;have:=QS g.q;have:=QN g.q;have:=QS g.n;have:=QN g.n;have c1:=Ge [g.p.x,g.p.y,g.q.x,g.q.y,g.n.x,g.n.y] (by simp) (by simp only[List.mem_cons,List.not_mem_nil,or_false];rintro r (rfl |rfl |rfl |rfl |rfl |rfl) <;> omega);have c2:=LR g.force g.rough h4 h5;have c3:=LS g.n h3;have c4:=Qj (Jb g.n);refine Fn.intro (fn:=Tryz.f63) Tryz.call63 Tryz.func63 rfl mixed 2 [] [] [] (by kernel_rfl) (Nat.le_of_ble_eq_true rfl) (fun a ha=>List.mem_singleton.1 ha▸QE g) (Xl ?_);simp(disch:=omega)only[AS.start,gA,QJ,Xu,↓Xd,wG,seval];refine X0 c1 ⟨Fa [g.p.x,g.p.y,g.q.x,g.q.y,g.n.x,g.n.y] _ _ _ rfl rfl rfl,trivial⟩ ?_;simp(disch:=omega)only[↓Xd,wG,seval];refine X0 c2 (X2 _) ?_;simp(disch:=omega)only[↓Xd,wG,seval];refine⟨fun h=>?_,fun h=>?_⟩
 ·refine X0 c3 (X2 _) ?_
  simp(disch:=omega)only[h,qA,qC,↓Xd,wG,seval];refine X0 c4 (X2 _) ?_;simp(disch:=omega)only[h,C6,↓Xd,wG,seval];exact Xk (v:=.bool (decide (0<Jb g.n))) rfl rfl (X5 _) (by simp[Kh,h])
 ·exact Xk (v:=.bool false) rfl rfl (X5 _) (by simp[Kh,h])
def bS (b:BB):Prop:=vb b.c≤1400∧qb b.light≤40∧qb b.heavy≤40∧qb b.strength≤40
def gS (g:GG):Prop:=vb g.p≤1400∧vb g.q≤1400∧vb g.n≤40∧qb g.force≤40∧qb g.rough≤40
theorem bS.ok {b:BB}(h:bS b):xg b:=by obtain⟨h1,h2,h3,h4⟩:=h;unfold xg rm;omega
theorem gS.ok {g:GG}(h:gS g):wZ g:=by obtain⟨h1,h2,h3,h4,h5⟩:=h;unfold wZ rm;omega
theorem pv (n:V2):qb (Jb n)≤2*vb n+1:=by
 have:=QS n;have:=QN n;have h:=An (Fc n.x) (Fc n.y);rw[Pp,Pp]at h;unfold Jb;omega
theorem wJ:qb (-1)≤5700:=by rw[Gy];decide +kernel
theorem Mj {b:BB}{g:GG}(hb:bS b)(hg:gS g):∀x∈Jj b g,(∀r∈x.a,qb r≤5700)∧qb x.b≤5700:=by
 obtain⟨b1,b2,b3,b4⟩:=hb;obtain⟨g1,g2,g3,g4,g5⟩:=hg;have t1:=QX g.p b.c;have t2:=QX g.q b.c;have t3:=D5 g.n;have c1:=Ao (g.p.sub b.c) g.n;have c2:=Ao (g.p.sub b.c) g.n.turned;have c3:=Ao (g.q.sub b.c) g.n;have c4:=Ao (g.q.sub b.c) g.n.turned;have l1:=pv g.n;have e0:qb 0≤5700:=by decide +kernel
 have e1:qb 1≤5700:=by decide +kernel
 have e16:qb 16≤5700:=by decide +kernel
 have en:=wJ;have nx:=QS g.n;have ny:=QN g.n;have d1:qb g.n.x≤5700:=by omega
 have d2:qb g.n.y≤5700:=by omega
 have d3:qb g.rough≤5700:=by omega
 have d4:qb g.force≤5700:=by omega
 have d5:qb b.heavy≤5700:=by omega
 have d6:qb b.strength≤5700:=by omega
 have d7:qb (Jb g.n)≤5700:=by omega
 have d8:qb (Xp (g.p.sub b.c) g.n)≤5700:=by omega
 have d9:qb (Xp (g.p.sub b.c) g.n.turned)≤5700:=by omega
 have d10:qb (Xp (g.q.sub b.c) g.n)≤5700:=by omega
 have d11:qb (Xp (g.q.sub b.c) g.n.turned)≤5700:=by omega
 simp only[Jj,Wx,Ww,VN,oX,List.flatMap_cons,List.flatMap_nil,List.map_cons,List.map_nil,List.cons_append,List.nil_append,List.append_nil,List.forall_mem_cons,List.mem_cons,List.not_mem_nil,or_false,forall_eq_or_imp,forall_eq,Gy];simp[e0,e1,e16,en,d1,d2,d3,d4,d5,d6,d7,d8,d9,d10,d11]
theorem pm {b:BB}{g:GG}(hf:0≤g.force)(hs:0≤b.strength):∀x∈Jj b g,0≤x.b:=by
 simp only[Jj,Wx,Ww,VN,oX,List.flatMap_cons,List.flatMap_nil,List.map_cons,List.map_nil,List.cons_append,List.nil_append,List.append_nil,List.forall_mem_cons,List.mem_cons,List.not_mem_nil,or_false,forall_eq_or_imp,forall_eq];have h16:(0:Rat)≤16:=by decide +kernel
 have h0:(0:Rat)≤0:=Rat.le_refl;simp[hf,hs,h16,h0]
theorem Wy (b:BB)(g:GG):∀x∈Jj b g,x.a.length=5:=by
 simp only[Jj,Wx,Ww,VN,oX,List.flatMap_cons,List.flatMap_nil,List.map_cons,List.map_nil,List.cons_append,List.nil_append,List.append_nil,List.forall_mem_cons,List.mem_cons,List.not_mem_nil,or_false,forall_eq_or_imp,forall_eq];simp
theorem Ny {b:BB}:B7 b=true↔0<b.light∧b.light≤b.heavy∧0<b.strength:=by unfold B7;simp
theorem CP {g:GG}:Kh g=true↔(0<g.force∧0≤g.rough∧g.rough≤4)∧0<Jb g.n:=by unfold Kh Bb;simp
theorem uy {b:BB}{g:GG}(hb:bS b)(hg:gS g)(h1:B7 b=true)(h2:Kh g=true) :
  ∃x y val,Fn Tryz.prog 51 [dC 5 (Jj b g) goal5] (.tup [YF 0 x y val,I 0])∧x.length=5∧y.length=17∧(∀i,qb (x.getD i 0)≤1356773)∧(∀i,qb (y.getD i 0)≤15000000)∧IsOpt 5 17 (lA (Jj b g)) (lB (Jj b g)) (lG goal5) (fun k=>x.getD k 0) (fun i=>y.getD i 0) val:=by
 obtain⟨q1,q2,q3⟩:=Ny.1 h1;obtain⟨⟨q4,q5,q6⟩,q7⟩:=CP.1 h2;have k1:=Mj hb hg;have k2:=pm (b:=b) (g:=g) (Rat.le_of_lt q4) (Rat.le_of_lt q3);have e0:qb 0≤5700:=by decide +kernel
 have e1:qb 1≤5700:=by decide +kernel
 refine kK 5 (Jj b g) goal5 5700 678386 (by omega) (by rw[AE];omega) rfl (Wy b g) (fun i hi=>k2 _ (QC Bl hi)) 9 (by rw[AE];omega) (fun k hk=>?_) (fun i k=>?_) (fun i=>?_) (fun k=>?_) e0 e1 (by rw[AE];omega) (by omega) (by rw[AE];omega) (by omega) (by omega)
 ·match k,hk with
  |0,_=>rfl
  |1,_=>rfl
  |2,_=>rfl
  |3,_=>rfl
  |4,_=>rfl
  |k+5,h=>omega
 ·unfold lA
  by_cases hi:i<(Jj b g).length
  ·by_cases hk:k<((Jj b g).getD i Bl).a.length
   ·exact(k1 _ (QC Bl hi)).1 _ (QC 0 hk)
   ·rw[List.getD_eq_getElem?_getD (i:=k),List.getElem?_eq_none (by omega)];exact e0
  ·rw[List.getD_eq_getElem?_getD (i:=i),List.getElem?_eq_none (by omega)];exact e0
 ·unfold lB
  by_cases hi:i<(Jj b g).length
  ·exact(k1 _ (QC Bl hi)).2
  ·rw[List.getD_eq_getElem?_getD (i:=i),List.getElem?_eq_none (by omega)];exact e0
 ·unfold lG goal5
  match k with
  |0=>exact e0
  |1=>exact e0
  |2=>exact e0
  |3=>exact e0
  |4=>exact e1
  |k+5=>exact e0
def MY (p:Rat×Rat):List AV:=qC p.1 ++ qC p.2
def bD (l:List (Rat×Rat)):AV:=cS MY 8 (0,0) l
theorem pr (l:List (Rat×Rat)):bD l=.sl l.length (l.length*8) (XA MY 8 (0,0) l) false:=nrfl rfl
theorem SX (x:Rat×Rat):∀a∈MY x,Settled a:=by simp[MY,qC,Xc,X5]
theorem Ic (l:List (Rat×Rat)):Settled (bD l):=JZ fun a x hx=>SX a x hx
theorem DB {P:Program}{fn:Func}{str hcs:List Nat}{a b c x y z:AV}{s:AS}{r1 r2 r3:ResultVar}(hr:fn.results=#[r1,r2,r3])(h1:Zt P s r1=some x)(h2:Zt P s r2=some y)(h3:Zt P s r3=some z)(g1:Zv s.h x a)(g2:Zv s.h y b)(g3:Zv s.h z c) :
  RetOk (Jv P fn str hcs (.tup [a,b,c])) s :=
 ⟨.tup [x,y,z],by simp[ZO,P8,EK,hr,Jg,Bd,h1,h2,h3],D1 ⟨g1,g2,g3,trivial⟩⟩
theorem Hp {α:Type}(e:α→List AV)(s:Nat)(d:α)(he:∀x,(e x).length=s) (l:List α):∀j,j<l.length*s→Xg (l.flatMap e) j=XA e s d l j:=by
 induction l with
 |nil=>intro j hj;simp at hj
 |cons x l ih =>
  intro j hj;show(e x ++ l.flatMap e).getD j .any=_;unfold XA;have hs:0<s:=Nat.pos_of_ne_zero fun h=>by rw[h]at hj;omega
  by_cases h:j<s
  ·rw[List.getD_eq_getElem?_getD,List.getElem?_append_left (by rw[he];exact h),←List.getD_eq_getElem?_getD,Nat.div_eq_of_lt h,Nat.mod_eq_of_lt h];rfl
  ·rw[List.getD_eq_getElem?_getD,List.getElem?_append_right (by rw[he];omega),he,←List.getD_eq_getElem?_getD]
   have hj2:j-s<l.length*s:=by rw[List.length_cons,Nat.succ_mul]at hj;omega
   have:=ih (j-s) hj2;rw[show(l.flatMap e).getD (j-s) .any=Xg (l.flatMap e) (j-s)from rfl,this];unfold XA;have e1:j/s=(j-s)/s+1:=by rw[Nat.div_eq_sub_div hs (by omega)]
   have e2:j%s=(j-s)%s:=by rw[Nat.mod_eq_sub_mod (by omega)]
   rw[e1,e2];rfl
theorem JE {α:Type}(e:α→List AV)(s:Nat)(d:α)(he:∀x,(e x).length=s) (l:List α) (n m:Nat) (L:List AV) (t:Bool) (hL:L=l.flatMap e) (hn:n=l.length) (hm:m=l.length*s):Weak (.sl n m (Xg L) t) (cS e s d l):=by
 subst hn hm hL;exact Kp rfl (Nat.le_refl _) fun j hj=>by rw[Hp e s d he l j hj];exact Weak.rfl' _
theorem ul (f:Nat→Rat):Xq f 0=AV.bool (sg (f 0))∧Xq f 1=X8 (X9 (f 0).num.natAbs)∧Xq f 2=AV.bool false∧Xq f 3=X8 (X9 (qd (f 0)))∧Xq f 4=AV.bool (sg (f 1))∧Xq f 5=X8 (X9 (f 1).num.natAbs)∧Xq f 6=AV.bool false∧Xq f 7=X8 (X9 (qd (f 1)))∧Xq f 8=AV.bool (sg (f 2))∧Xq f 9=X8 (X9 (f 2).num.natAbs)∧Xq f 10=AV.bool false∧Xq f 11=X8 (X9 (qd (f 2)))∧Xq f 12=AV.bool (sg (f 3))∧Xq f 13=X8 (X9 (f 3).num.natAbs)∧Xq f 14=AV.bool false∧Xq f 15=X8 (X9 (qd (f 3))):=by
 refine⟨rfl,rfl,rfl,rfl,rfl,rfl,rfl,rfl,rfl,rfl,rfl,rfl,rfl,rfl,rfl,rfl⟩
theorem Uu (b:BB)(g:GG)(hb:bS b)(hg:gS g)(h1:B7 b=true)(h2:Kh g=true) :
  ∃x0 x1 x2 x3 m,Fn Tryz.prog 22 [bA b,gA g] (.tup [qA m,bD [(x0,x1),(x2,x3)],I 0])∧mc b g m∧okP b g x0 x1 x2 x3 m∧qb x0≤1356773∧qb x1≤1356773∧qb x2≤1356773∧qb x3≤1356773∧qb m≤1356773:=by
 obtain⟨x,y,m,c4,hx,hy,hbx,hby,hO⟩:=uy hb hg h1 h2;obtain⟨i1,i2,i3⟩:=pf hO;refine⟨x.getD 0 0,x.getD 1 0,x.getD 2 0,x.getD 3 0,m,?_,i1,i2,hbx 0,hbx 1,hbx 2,hbx 3,i3▸hbx 4⟩;have c1:=LO b hb.ok;have c2:=LQ g hg.ok;have c3:=Mk b g hb.1 hg.1 hg.2.1 (by have:=hg.2.2.1;omega);rw[h1]at c1;rw[h2]at c2;obtain⟨R1,hR1⟩:∃R,R=qA m:=⟨_,rfl⟩
 have sR1:Settled R1:=hR1▸Xb _;obtain⟨R2,hR2⟩:∃R,R=bD [(x.getD 0 0,x.getD 1 0),(x.getD 2 0,x.getD 3 0)]:=⟨_,rfl⟩
 have sR2:Settled R2:=hR2▸Ic _;rw[←hR1,←hR2];refine Fn.intro (fn:=Tryz.f22) Tryz.call22 Tryz.func22 rfl mixed 9 [] [6,7020] [] (by kernel_rfl) (Nat.le_of_ble_eq_true rfl) (Kd (AL b) (QE g)) (XL 60 ?_);simp(disch:=omega)only[AS.start,bA,gA,JL,QJ,Xu,↓Xd,wG,seval];refine X0 c1 (X2 _) ?_;simp(disch:=omega)only[↓Xd,wG,seval];refine X0 c2 (X2 _) ?_;simp(disch:=omega)only[↓Xd,wG,seval];refine X0 c3 (X2 _) ?_;simp(disch:=omega)only[dC,↓Xd,wG,seval];refine X0 c4 (X2 _) ?_;simp(disch:=omega)only[YF,fE,qA,qC,↓Xd,wG,seval];refine⟨rfl,?_⟩;refine Run.sub ?_ (Q0 3 rfl);refine Run.sub ?_ (Q5 7 rfl rfl (by omega));refine Xl ?_;have rx:=ul fun i=>x.getD i 0
 simp(disch:=omega)only[AS.put,List.set,YF,fE,qA,qC,XX,hx,hy,rx,↓Xd,wG,seval];exact DB (r1:=.cell 4 28) (r2:=.tmp 5) (r3:=.tmp 6) rfl (Xt XT rfl rfl rfl) rfl rfl (Qa sR1 (by rw[hR1];rfl)) (Xs sR2 (by rw[hR2];exact JE MY 8 (0,0) (fun _=>rfl) [(x.getD 0 0,x.getD 1 0),(x.getD 2 0,x.getD 3 0)] _ _ _ _ rfl rfl rfl)) (Qa (Xa 0) rfl)
def P6 (x a:List Rat):Rat:=XK (fun k=>a.getD k 0*x.getD k 0) 5
def VP (a:AV):AV:=.ptr 1 (Xg [a]) 0
theorem Ft {a:AV}(h:Settled a):Settled (VP a):=XN fun j _=>Xe (l:=[a]) (fun x hx=>List.mem_singleton.1 hx▸h) j
theorem pu {x a:List Rat}(h1:∀ r∈x,qb r≤1500000)(h2:∀r∈a,qb r≤5700):qb (P6 x a)≤7600000:=by
 have e0:qb 0≤5700:=by decide +kernel
 have g:∀ {l:List Rat} {c:Nat},5700≤c→(∀r∈l,qb r≤c)→∀k,qb (l.getD k 0)≤c:=fun {l} c hc h k=>by
  by_cases hk:k<l.length
  ·exact h _ (QC 0 hk)
  ·rw[List.getD_eq_getElem?_getD,List.getElem?_eq_none (by omega)];exact Nat.le_trans e0 hc
 have:=IE (f:=fun k=>a.getD k 0*x.getD k 0) (E:=1505700) (m:=5) fun i hi=>by
  have:=Qq (a.getD i 0) (x.getD i 0);have:=g (by omega) h1 i;have:=g (Nat.le_refl _) h2 i;omega
 unfold P6;omega
theorem Ut (x:List Rat)(l:Ln)(hx:x.length=5)(hl:l.a.length=5)(h1:∀ r∈x,qb r≤1500000)(h2:∀ r∈l.a,qb r≤5700)(h3:qb l.b≤5700) :
  Fn Tryz.prog 99 [r7 l,VP (Z5 x)] (.bool (decide (l.b<P6 x l.a))):=by
 have c1:=gD l.a x 1505700 (by omega) (by omega) (fun i hi=>by have:=h2 _ (QC 0 hi);have:=h1 _ (QC 0 (show i<x.length by omega));omega) (by omega);rw[hl,show XK (fun i=>l.a.getD i 0*x.getD i 0) 5=P6 x l.a from rfl]at c1;have q:=pu h1 h2;have c2:=QZ (P6 x l.a) l.b (by unfold rm;omega) (by unfold rm;omega);refine Fn.intro (fn:=Tryz.f99) Tryz.call99 Tryz.func99 rfl mixed 4 [] [] [] (by kernel_rfl) (Nat.le_of_ble_eq_true rfl) (Kd (I9 l) (Ft (Qf x))) (Xl ?_);simp(disch:=omega)only[AS.start,r7,DT,VP,qC,XX,↓Xd,wG,seval];refine X0 c1 (X2 _) ?_;simp(disch:=omega)only[↓Xd,wG,seval];refine X0 c2 (X2 _) ?_;simp(disch:=omega)only[↓Xd,wG,seval];exact Xk rfl rfl (X5 _) (congrArg AV.bool (decide_eq_decide.2 (Bs _ _)))
def Mm (l:List (Rat×Rat)) (k:Rat):List Rat:=[(l.getD 0 (0,0)).1,(l.getD 0 (0,0)).2,(l.getD 1 (0,0)).1,(l.getD 1 (0,0)).2,k]
def Wb (b:BB)(g:GG)(k:Rat)(l:List (Rat×Rat)):Prop:=okP b g (l.getD 0 (0,0)).1 (l.getD 0 (0,0)).2 (l.getD 1 (0,0)).1 (l.getD 1 (0,0)).2 k
theorem iW (b:BB)(g:GG)(k:Rat)(l:List (Rat×Rat)):((Jj b g).any fun x=>decide (x.b<P6 (Mm l k) x.a))=false↔Wb b g k l:=by
 have h:=LG b g fun i=>(Mm l k).getD i 0
 rw[List.any_eq_false];have e:(∀x∈Jj b g,¬decide (x.b<P6 (Mm l k) x.a)=true)↔(∀i,i<17→XK (fun k'=>lA (Jj b g) i k'*(Mm l k).getD k' 0) 5≤lB (Jj b g) i):=by
  constructor
  ·intro h1 i hi
   have:=h1 _ (QC Bl (show i<(Jj b g).length by rw[AE];exact hi));rw[decide_eq_true_eq,Rat.not_lt]at this;exact this
  ·intro h1 x hx
   obtain⟨i,hi,rfl⟩:=List.getElem_of_mem hx;have:=h1 i (by rw[AE]at hi;exact hi);rw[decide_eq_true_eq,Rat.not_lt];unfold lA lB at this;rw[List.getD_eq_getElem?_getD,List.getElem?_eq_getElem hi]at this;exact this
 rw[e,h];rfl
def ZT (b:BB)(g:GG)(k:Rat)(l:List (Rat×Rat)):Int:=if(B7 b && Kh g)=true then(if l.length=2∧Wb b g k l then 0 else 22)else 1
theorem NK (b:BB)(g:GG)(k:Rat)(l:List (Rat×Rat)) (hb:bS b) (hg:gS g) (hk:qb k≤1500000) (hl:l.length<1000000) (hp:∀x∈l,qb x.1≤1500000∧qb x.2≤1500000):Fn Tryz.prog 29 [bA b,gA g,qA k,bD l] (I (ZT b g k l)):=by
 have c1:=LO b hb.ok;have c2:=LQ g hg.ok;have c3:=Mk b g hb.1 hg.1 hg.2.1 (by have:=hg.2.2.1;omega);have hS:∀a∈[bA b,gA g,qA k,bD l],Settled a:=by simp[AL,QE,Xb,Ic]
 by_cases hl2:l.length=2
 ·obtain⟨p,q,rfl⟩:∃p q,l=[p,q]:=by
   match l,hl2 with
   | [p,q],_=>exact⟨p,q,rfl⟩
  have hP:bD [p,q]=.sl 2 16 (XA MY 8 (0,0) [p,q]) false:=rfl;have hF:XA MY 8 (0,0) [p,q] 0=AV.bool (sg p.1)∧XA MY 8 (0,0) [p,q] 1=X8 (X9 (p.1).num.natAbs)∧XA MY 8 (0,0) [p,q] 2=AV.bool false∧XA MY 8 (0,0) [p,q] 3=X8 (X9 (qd p.1))∧XA MY 8 (0,0) [p,q] 4=AV.bool (sg p.2)∧XA MY 8 (0,0) [p,q] 5=X8 (X9 (p.2).num.natAbs)∧XA MY 8 (0,0) [p,q] 6=AV.bool false∧XA MY 8 (0,0) [p,q] 7=X8 (X9 (qd p.2))∧XA MY 8 (0,0) [p,q] 8=AV.bool (sg q.1)∧XA MY 8 (0,0) [p,q] 9=X8 (X9 (q.1).num.natAbs)∧XA MY 8 (0,0) [p,q] 10=AV.bool false∧XA MY 8 (0,0) [p,q] 11=X8 (X9 (qd q.1))∧XA MY 8 (0,0) [p,q] 12=AV.bool (sg q.2)∧XA MY 8 (0,0) [p,q] 13=X8 (X9 (q.2).num.natAbs)∧XA MY 8 (0,0) [p,q] 14=AV.bool false∧XA MY 8 (0,0) [p,q] 15=X8 (X9 (qd q.2)):=⟨rfl,rfl,rfl,rfl,rfl,rfl,rfl,rfl,rfl,rfl,rfl,rfl,rfl,rfl,rfl,rfl⟩
  obtain⟨p1,p2⟩:=hp p (by simp);obtain⟨p3,p4⟩:=hp q (by simp);have c4:=Ge [k,p.1,p.2,q.1,q.2] (by simp) (by unfold rm;simp only[List.mem_cons,List.not_mem_nil,or_false];rintro r (rfl |rfl |rfl |rfl |rfl) <;> omega);refine Fn.intro (fn:=Tryz.f29) Tryz.call29 Tryz.func29 rfl mixed 11 [] [] [] (by kernel_rfl) (Nat.le_of_ble_eq_true rfl) hS (XL 132 ?_);simp(disch:=omega)only[AS.start,bA,gA,JL,QJ,Xu,qA,qC,↓Xd,wG,seval];refine X0 c1 (X2 _) ?_;simp(disch:=omega)only[↓Xd,wG,seval];refine⟨fun h1=>?_,fun h1=>?_⟩
  ·exact Xk (v:=I 1) rfl rfl (Xa _) (by simp at h1;simp[ZT,h1])
  have h1:B7 b=true:=by cases e:B7 b <;> simp_all
  refine X0 c2 (X2 _) ?_;simp(disch:=omega)only[hP,hF,↓Xd,wG,seval];refine⟨fun h2=>?_,fun h2=>?_⟩
  ·exact Xk (v:=I 1) rfl rfl (Xa _) (by simp at h2;simp[ZT,h1,h2])
  have h2:Kh g=true:=by cases e:Kh g <;> simp_all
  refine X0 c4 ⟨Fa [k,p.1,p.2,q.1,q.2] _ _ _ rfl rfl rfl,trivial⟩ ?_;simp(disch:=omega)only[hP,hF,↓Xd,wG,seval];obtain⟨X,hX⟩:∃X,X=Mm [p,q] k:=⟨_,rfl⟩
  have hX5:X.length=5:=by rw[hX];rfl
  have hXq:∀r∈X,qb r≤1500000:=by
   rw[hX];simp only[Mm,List.mem_cons,List.not_mem_nil,or_false];rintro r (rfl |rfl |rfl |rfl |rfl)
   ·exact p1
   ·exact p2
   ·exact p3
   ·exact p4
   ·exact hk
  have c5:=G4 (Jj b g) 99 [VP (Z5 X)] (fun x=>decide (x.b<P6 X x.a)) (by rw[AE];omega) (fun a ha=>List.mem_singleton.1 ha▸Ft (Qf X)) fun x hx=>Ut X x hX5 (Wy b g x hx) hXq (Mj hb hg x hx).1 (Mj hb hg x hx).2
  refine Run.sub ?_ (QL 3 (Xg [Z5 X]) rfl (fun j hj=>by
   match j,hj with
   |0,_=>exact KB (by rw[hX];have:=JE qC 4 0 (fun _=>rfl) (Mm [p,q] k) 5 20 (qC p.1 ++ qC p.2 ++ qC q.1 ++ qC q.2 ++ qC k) false rfl rfl rfl;exact this)
   |j+1,h=>omega))
  refine Run.sub ?_ (Q0 3 rfl);refine Run.sub ?_ (Q5 9 rfl rfl (by omega));refine Xl ?_;simp(disch:=omega)only[AS.put,List.set,↓Xd,wG,seval];refine X0 c3 (X2 _) ?_;simp(disch:=omega)only[dC,↓Xd,wG,seval];refine X0 c5 (X2 _) ?_;simp(disch:=omega)only[↓Xd,wG,seval];have hh:=iW b g k [p,q];rw[←hX]at hh;refine⟨fun h3=>?_,fun h3=>?_⟩
  ·have n:¬Wb b g k [p,q]:=fun hB=>by have e:=hh.2 hB;rw[e]at h3;exact absurd h3 (by simp)
   exact Xk (v:=I 22) rfl rfl (Xa _) (by simp[ZT,h1,h2,n])
  ·have y:Wb b g k [p,q]:=hh.1 (by revert h3;cases(Jj b g).any (fun x=>decide (x.b<P6 X x.a)) <;> simp)
   exact Xk (v:=I 0) rfl rfl (Xa _) (by simp[ZT,h1,h2,y])
 ·refine Fn.intro (fn:=Tryz.f29) Tryz.call29 Tryz.func29 rfl mixed 11 [] [] [] (by kernel_rfl) (Nat.le_of_ble_eq_true rfl) hS (Xl ?_)
  have hl3:¬ (l.length:Int)=2:=by omega
  simp(disch:=omega)only[AS.start,bA,gA,JL,QJ,Xu,qA,qC,↓Xd,wG,seval];refine X0 c1 (X2 _) ?_;simp(disch:=omega)only[↓Xd,wG,seval];refine⟨fun h1=>?_,fun h1=>?_⟩
  ·exact Xk (v:=I 1) rfl rfl (Xa _) (by simp at h1;simp[ZT,h1])
  have h1:B7 b=true:=by cases e:B7 b <;> simp_all
  refine X0 c2 (X2 _) ?_;simp(disch:=omega)only[pr,hl3,↓Xd,wG,seval];refine⟨fun h2=>?_,fun h2=>?_⟩
  ·exact Xk (v:=I 1) rfl rfl (Xa _) (by simp at h2;simp[ZT,h1,h2])
  have h2:Kh g=true:=by cases e:Kh g <;> simp_all
  exact Xk (v:=I 22) rfl rfl (Xa _) (by simp[ZT,h1,h2,hl2])
theorem SJ (f r:Rat)(h1:qb f≤rm)(h2:qb r≤rm):Fn Tryz.prog 88 [qA f,qA r] (.bool (Bb f r)):=by
 have v1:=Mu f h1;have v2:=Mu r h2;have c2:=JV f h1;have c3:=JV r h2;have c4:=XS 4 1 ⟨by omega,by omega⟩ ⟨by omega,by omega⟩;rw[show Rat.divInt 4 1=4 by decide +kernel]at c4;have c5:=Z7 r 4 h2 (by decide +kernel);refine Fn.intro (fn:=Tryz.f88) Tryz.call88 Tryz.func88 rfl mixed 4 [] [] [] (by kernel_rfl) (Nat.le_of_ble_eq_true rfl) (Kd (Xb f) (Xb r)) (Xl ?_);simp(disch:=omega)only[AS.start,qA,qC,↓Xd,wG,seval];refine X0 v1 (X2 _) ?_;simp(disch:=omega)only[↓Xd,wG,seval];refine X0 v2 (X2 _) ?_;simp(disch:=omega)only[↓Xd,wG,seval];refine X0 c2 (X2 _) ?_;simp(disch:=omega)only[C6,Cr,↓Xd,wG,seval];refine⟨fun h=>?_,fun h=>?_⟩
 ·refine X0 c3 (X2 _) ?_
  simp(disch:=omega)only[h,C6,Cr,↓Xd,wG,seval];refine⟨fun h2=>?_,fun h2=>?_⟩
  ·refine X1 c4 rfl ?_
   simp(disch:=omega)only[h,h2,qA,qC,↓Xd,wG,seval];refine X0 c5 (X2 _) ?_;simp(disch:=omega)only[h,h2,↓Xd,wG,seval];exact Xk (v:=.bool (decide (BV r 4≤0))) rfl rfl (X5 _) (congrArg AV.bool (by unfold Bb;exact decide_eq_decide.2 (by rw[Zl];simp[h,h2])))
  ·exact Xk (v:=.bool false) rfl rfl (X5 _) (by simp[Bb,h,h2])
 ·exact Xk (v:=.bool false) rfl rfl (X5 _) (by simp[Bb,h])
theorem Tr:vb v0≤1400:=by decide +kernel
theorem ux {a b c:V2}{k:Nat}(h:vb a≤k)(h2:vb b≤k)(h3:vb c≤k)(hk:1400≤k):Qp [a,b,c] k:=fun i=>match i with
 |0=>h
 |1=>h2
 |2=>h3
 |_+3=>Nat.le_trans Tr hk
theorem DN (t:Bool):Weak (.agg [.bool false,.sl 0 0 (fun _=>.any) t,.bool false,.sl 0 0 (fun _=>.any) t,.bool false,.sl 0 0 (fun _=>.any) t,.bool false,.sl 0 0 (fun _=>.any) t]) (vA v0):=by
 have w:=Zr t;exact ZS ⟨w.1,w.2.1,w.2.2.1,w.2.2.2.1,w.1,w.2.1,w.2.2.1,w.2.2.2.1,trivial⟩
theorem Gh (n:V2):(0<Jb n)=(n≠v0):=propext (by
 have h0:∀x:Rat,0≤Fc x∧(Fc x=0↔x=0):=fun x=>by unfold Fc;split <;> constructor <;> grind
 obtain⟨a1,a2⟩:=h0 n.x;obtain⟨b1,b2⟩:=h0 n.y;constructor
 ·rintro h rfl
  have e1:=a2.2 rfl;have e2:=b2.2 rfl;unfold Jb at h;rw[e1,e2]at h;grind
 ·intro h
  refine Rat.not_le.1 fun h2=>h ?_
  unfold Jb at h2;have e1:Fc n.x=0:=by grind
  have e2:Fc n.y=0:=by grind
  have x0:=a2.1 e1;have y0:=b2.1 e2;cases n;simp only at x0 y0;subst x0 y0;rfl)
theorem cw (g:GG)(hg:vb g.p≤10000∧vb g.q≤10000∧vb g.n≤10000∧qb g.force≤10000∧qb g.rough≤10000):Fn Tryz.prog 24 [gA g] (.bool (Kh g)):=by
 obtain⟨h1,h2,h3,h4,h5⟩:=hg;have c1:=Gn [g.p,g.q,g.n] 10000 (ux h1 h2 h3 (by omega)) (by omega) (by simp);have c2:=SJ g.force g.rough (by unfold rm;omega) (by unfold rm;omega);have c3:=FN g.n v0 (by unfold vm;omega) (by unfold vm;decide +kernel);refine Fn.intro (fn:=Tryz.f24) Tryz.call24 Tryz.func24 rfl mixed 3 [] [] [] (by kernel_rfl) (Nat.le_of_ble_eq_true rfl) (fun a ha=>List.mem_singleton.1 ha▸QE g) (Xl ?_);simp(disch:=omega)only[AS.start,gA,QJ,Xu,↓Xd,wG,seval];refine X0 c1 ⟨JE vC 8 v0 (fun _=>rfl) [g.p,g.q,g.n] _ _ _ _ rfl rfl rfl,trivial⟩ ?_;simp(disch:=omega)only[↓Xd,wG,seval];refine X0 c2 (X2 _) ?_;simp(disch:=omega)only[↓Xd,wG,seval];refine⟨fun h=>?_,fun h=>?_⟩
 ·refine X0 c3 ⟨Weak.rfl' _,DN _,trivial⟩ ?_
  simp(disch:=omega)only[h,↓Xd,wG,seval];exact Xk (v:=.bool (!decide (g.n=v0))) rfl rfl (X5 _) (by simp[Kh,h,Gh])
 ·exact Xk (v:=.bool false) rfl rfl (X5 _) (by simp[Kh,h])
theorem HG (a:V2)(k:Rat):vb (a.scale k)≤vb a+qb k:=by
 have h1:=Qq a.x k;have h2:=Qq a.y k;have:=QS a;have:=QN a;show max (qb (a.scale k).x) (qb (a.scale k).y)≤_;have e1:qb (a.scale k).x≤vb a+qb k:=Nat.le_trans h1 (by omega);have e2:qb (a.scale k).y≤vb a+qb k:=Nat.le_trans h2 (by omega);omega
def pI (x y:Int):V2:=⟨x,y⟩
def sqV:List V2:=[v0,pI 2 0,pI 2 2,pI 0 2]
def ED (n:Int):BB:=⟨pI 1 1,Rat.divInt 1 1,Rat.divInt 2 1,Rat.divInt n 1⟩
theorem HH:∀ {L M:List AV},WeakL L M→∀j,Weak (Xg L j) (Xg M j)
 | [],[],_,j=>Weak.rfl' _
 |a :: L,b :: M,h,0=>h.1
 |a :: L,b :: M,h,j+1=>HH (L:=L) (M:=M) h.2 j
theorem UF:Fn Tryz.prog 75 [] (Q6 sqV):=by
 have c1:=Kj 2 0 ⟨by omega,by omega⟩ ⟨by omega,by omega⟩;have c2:=Kj 2 2 ⟨by omega,by omega⟩ ⟨by omega,by omega⟩;have c3:=Kj 0 2 ⟨by omega,by omega⟩ ⟨by omega,by omega⟩;rw[show(⟨((2:Int):Rat),((0:Int):Rat)⟩:V2)=pI 2 0 from rfl]at c1;rw[show(⟨((2:Int):Rat),((2:Int):Rat)⟩:V2)=pI 2 2 from rfl]at c2;rw[show(⟨((0:Int):Rat),((2:Int):Rat)⟩:V2)=pI 0 2 from rfl]at c3;obtain⟨R,hR⟩:∃R,R=Q6 sqV:=⟨_,rfl⟩
 have sR:Settled R:=hR▸Xn _;rw[←hR];refine Fn.intro (fn:=Tryz.f75) Tryz.call75 Tryz.func75 rfl mixed 1 [] [] [] (by kernel_rfl) (Nat.le_of_ble_eq_true rfl) (by simp) (Xl ?_);simp(disch:=omega)only[AS.start,↓Xd,wG,seval];refine X1 c1 rfl ?_;simp(disch:=omega)only[vA,vC,↓Xd,wG,seval];refine X1 c2 rfl ?_;simp(disch:=omega)only[vA,vC,↓Xd,wG,seval];refine X1 c3 rfl ?_;simp(disch:=omega)only[vA,vC,↓Xd,wG,seval];refine ZP rfl (Xs sR ?_);rw[hR];have w:=Zr false;have hL:WeakL ([.bool false,.sl 0 0 (fun _=>.any) false,.bool false,.sl 0 0 (fun _=>.any) false,.bool false,.sl 0 0 (fun _=>.any) false,.bool false,.sl 0 0 (fun _=>.any) false] ++ (vC (pI 2 0) ++ vC (pI 2 2) ++ vC (pI 0 2))) (sqV.flatMap vC) :=
  ⟨w.1,w.2.1,w.2.2.1,w.2.2.2.1,w.1,w.2.1,w.2.2.1,w.2.2.2.1,X2 _⟩
 exact Kp rfl (Nat.le_refl _) fun j hj=>by
  rw[←Hp vC 8 v0 (fun _=>rfl) sqV j hj];exact HH hL j
theorem NS (n:Int)(hn:KT n):Fn Tryz.prog 76 [I n] (bA (ED n)):=by
 have c1:=Kj 1 1 ⟨by omega,by omega⟩ ⟨by omega,by omega⟩;rw[show(⟨((1:Int):Rat),((1:Int):Rat)⟩:V2)=pI 1 1 from rfl]at c1;have c2:=XS 1 1 ⟨by omega,by omega⟩ ⟨by omega,by omega⟩;have c3:=XS 2 1 ⟨by omega,by omega⟩ ⟨by omega,by omega⟩;have c4:=XS n 1 hn ⟨by omega,by omega⟩;obtain⟨R,hR⟩:∃R,R=bA (ED n):=⟨_,rfl⟩
 have sR:Settled R:=hR▸AL _;rw[←hR];refine Fn.intro (fn:=Tryz.f76) Tryz.call76 Tryz.func76 rfl mixed 3 [] [] [] (by kernel_rfl) (Nat.le_of_ble_eq_true rfl) (fun a ha=>List.mem_singleton.1 ha▸Xa n) (Xl ?_);simp(disch:=omega)only[AS.start,↓Xd,wG,seval];refine X1 c1 rfl ?_;simp(disch:=omega)only[vA,vC,↓Xd,wG,seval];refine X1 c2 rfl ?_;simp(disch:=omega)only[qA,qC,↓Xd,wG,seval];refine X1 c3 rfl ?_;simp(disch:=omega)only[qA,qC,↓Xd,wG,seval];refine X1 c4 rfl ?_;simp(disch:=omega)only[qA,qC,↓Xd,wG,seval];exact ZC rfl qX rfl rfl rfl (Xs sR (by rw[hR];exact Weak.rfl' _))
theorem xa {x y:Rat}(h:x*x+y*y=0):x=0∧y=0:=by
 have hx:=AP x;have hy:=AP y;have h1:x*x=0:=by grind
 have h2:y*y=0:=by grind
 exact⟨by rcases Rat.mul_eq_zero.1 h1 with h |h <;> exact h,by rcases Rat.mul_eq_zero.1 h2 with h |h <;> exact h⟩
theorem IL {x y:Rat}(h:¬ (x=0∧y=0)):0<x*x+y*y:=by
 have hx:=AP x;have hy:=AP y;have:¬x*x+y*y=0:=fun e=>h (xa e)
 grind
theorem Gu (u1 u2 v1 v2 y1 y2:Rat)(h:u1*v2 - u2*v1=0)(hd:0<u1*v1+u2*v2):y1*u2-y2*u1=0∨0<(y1*u2-y2*u1)*(y1*v2-y2*v1):=by
 by_cases hc:y1*u2-y2*u1=0
 ·exact .inl hc
 ·right
  have e:(y1*u2-y2*u1)*(y1*v2-y2*v1)*(u1*v1+u2*v2)=(y1*u2-y2*u1)*(y1*u2-y2*u1)*(v1*v1+v2*v2)+(y1*u2-y2*u1)*(u1*v2-u2*v1)*(y1*v1+y2*v2):=by grind
  rw[h]at e;have hv:0<v1*v1+v2*v2:=IL fun⟨a,b⟩=>by rw[a,b]at hd;grind
  have hcc:0<(y1*u2-y2*u1)*(y1*u2-y2*u1):=by
   have:=AP (y1*u2-y2*u1);have h2:¬ (y1*u2-y2*u1)*(y1*u2-y2*u1)=0:=fun e=>by rcases Rat.mul_eq_zero.1 e with h |h <;> exact hc h
   grind
  have hp:=Rat.mul_pos hcc hv;refine Rat.not_le.1 fun hn=>?_
  have:=Rat.mul_nonneg (show 0≤-((y1*u2-y2*u1)*(y1*v2-y2*v1))by grind) (Rat.le_of_lt hd);grind
theorem CY {p q:Rat}(h:0<p*q):(0<p∧0<q)∨(p<0∧q<0):=by
 rcases Rat.le_total (a:=0) (b:=p)with hp |hp
 ·left
  have hp2:0<p:=by
   refine Rat.not_le.1 fun g=>?_
   have:p=0:=by grind
   rw[this]at h;grind
  refine⟨hp2,Rat.not_le.1 fun g=>?_⟩;have:=Rat.mul_nonneg hp (show 0≤-q by grind);grind
 ·right
  have hp2:p<0:=by
   refine Rat.not_le.1 fun g=>?_
   have:p=0:=by grind
   rw[this]at h;grind
  refine⟨hp2,Rat.not_le.1 fun g=>?_⟩;have:=Rat.mul_nonneg (show 0≤-p by grind) g;grind
theorem kG (x1 x2 m1 m2 k1 k2:Rat)(hx:¬ (x1=0∧x2=0)) (hp:x1*m2-x2*m1=0) (hq:x1*k2-x2*k1=0)
  (h1:0<m1*(m1-x1)+m2*(m2-x2)) (h2:0<k1*(k1-x1)+k2*(k2-x2)) (h3:0<m1*k1+m2*k2) :
  (x1*x1+x2*x2<x1*m1+x2*m2∧x1*x1+x2*x2<x1*k1+x2*k2)∨(x1*m1+x2*m2<0∧x1*k1+x2*k2<0):=by
 have hn:=IL hx;have e1:(x1*m1+x2*m2)*(x1*m1+x2*m2-(x1*x1+x2*x2))=(x1*x1+x2*x2)*(m1*(m1-x1)+m2*(m2-x2))-(x1*m2-x2*m1)*(x1*m2-x2*m1):=by grind
 have e2:(x1*k1+x2*k2)*(x1*k1+x2*k2-(x1*x1+x2*x2))=(x1*x1+x2*x2)*(k1*(k1-x1)+k2*(k2-x2))-(x1*k2-x2*k1)*(x1*k2-x2*k1):=by grind
 have e3:(x1*m1+x2*m2)*(x1*k1+x2*k2)=(x1*x1+x2*x2)*(m1*k1+m2*k2)-(x1*m2-x2*m1)*(x1*k2-x2*k1):=by grind
 rw[hp]at e1;rw[hq]at e2;rw[hp]at e3;have p1:=Rat.mul_pos hn h1;have p2:=Rat.mul_pos hn h2;have p3:=Rat.mul_pos hn h3;have g1:0<(x1*m1+x2*m2)*(x1*m1+x2*m2-(x1*x1+x2*x2)):=by grind
 have g2:0<(x1*k1+x2*k2)*(x1*k1+x2*k2-(x1*x1+x2*x2)):=by grind
 have g3:0<(x1*m1+x2*m2)*(x1*k1+x2*k2):=by grind
 generalize x1*m1+x2*m2=C at *;generalize x1*k1+x2*k2=D at *;generalize x1*x1+x2*x2=N at *;rcases CY g3 with⟨a,b⟩ | ⟨a,b⟩
 ·left
  rcases CY g1 with⟨_,c⟩ | ⟨c,_⟩
  ·rcases CY g2 with⟨_,d⟩ | ⟨d,_⟩
   ·exact⟨by grind,by grind⟩
   ·grind
  ·grind
 ·exact .inr ⟨a,b⟩
theorem Lv (m1 m2 x1 x2 k1 k2:Rat)(hm:¬ (m1=0∧m2=0)) (h1:x1*m2-x2*m1=0) (h2:m1*k2-m2*k1=0):x1*k2-x2*k1=0:=by
 have hn:=IL hm;have e:(m1*m1+m2*m2)*(x1*k2-x2*k1)=(x1*m1+x2*m2)*(m1*k2-m2*k1)+(x1*m2-x2*m1)*(m1*k1+m2*k2):=by grind
 rw[h1,h2]at e;have e2:(m1*m1+m2*m2)*(x1*k2-x2*k1)=0:=by grind
 rcases Rat.mul_eq_zero.1 e2 with h |h
 ·grind
 ·exact h
theorem xB (x1 x2 m1 m2 k1 k2:Rat)(hx:¬ (x1=0∧x2=0))
  (P:x1*m2-x2*m1=0→0<m1*(m1-x1)+m2*(m2-x2)) (Q:x1*k2-x2*k1=0→0<k1*(k1-x1)+k2*(k2-x2))
  (R:m1*k2-m2*k1=0→0<m1*k1+m2*k2) (S:(k1-m1)*(x2-m2)-(k2-m2)*(x1-m1)=0→0<(m1-x1)*(k1-x1)+(m2-x2)*(k2-x2))
  (hn:¬ ((x1*m2-x2*m1)*(x1*k2-x2*k1)<0∧(m1*k2-m2*k1)*((k1-m1)*(x2-m2)-(k2-m2)*(x1-m1))<0)) :
  0<(x1*m2-x2*m1)*(x1*k2-x2*k1)∨0<(m1*k2-m2*k1)*((k1-m1)*(x2-m2)-(k2-m2)*(x1-m1)) ∨
  ((x1*x1+x2*x2<x1*m1+x2*m2∧x1*x1+x2*x2<x1*k1+x2*k2)∨(x1*m1+x2*m2<0∧x1*k1+x2*k2<0)):=by
 by_cases hp:x1*m2-x2*m1=0
 ·have h1:=P hp
  have hm:¬ (m1=0∧m2=0):=fun⟨a,b⟩=>by rw[a,b]at h1;grind
  rcases Gu (-m1) (-m2) (x1-m1) (x2-m2) (k1-m1) (k2-m2) (by grind) (by grind)with h |h
  ·have hr:m1*k2-m2*k1=0:=by grind
   have hq:=Lv m1 m2 x1 x2 k1 k2 hm hp hr;exact Or.inr (Or.inr (kG x1 x2 m1 m2 k1 k2 hx hp hq h1 (Q hq) (R hr)))
  ·exact Or.inr (Or.inl (by grind))
 by_cases hq:x1*k2-x2*k1=0
 ·have h1:=Q hq
  have hk:¬ (k1=0∧k2=0):=fun⟨a,b⟩=>by rw[a,b]at h1;grind
  rcases Gu (-k1) (-k2) (x1-k1) (x2-k2) (k1-m1) (k2-m2) (by grind) (by grind)with h |h
  ·have hr:m1*k2-m2*k1=0:=by grind
   exact absurd (Lv k1 k2 x1 x2 m1 m2 hk hq (by grind)) hp
  ·exact Or.inr (Or.inl (by grind))
 by_cases hr:m1*k2-m2*k1=0
 ·rcases Gu m1 m2 k1 k2 x1 x2 hr (R hr)with h |h
  ·exact absurd h hp
  ·exact Or.inl h
 by_cases hs:(k1-m1)*(x2-m2)-(k2-m2)*(x1-m1)=0
 ·rcases Gu (m1-x1) (m2-x2) (k1-x1) (k2-x2) x1 x2 (by grind) (S hs)with h |h
  ·exact absurd (by grind) hp
  ·exact Or.inl (by grind)
 have ne1:¬ (x1*m2-x2*m1)*(x1*k2-x2*k1)=0:=fun e=>by
  rcases Rat.mul_eq_zero.1 e with h |h
  ·exact hp h
  ·exact hq h
 have ne2:¬ (m1*k2-m2*k1)*((k1-m1)*(x2-m2)-(k2-m2)*(x1-m1))=0:=fun e=>by
  rcases Rat.mul_eq_zero.1 e with h |h
  ·exact hr h
  ·exact hs h
 generalize (x1*m2-x2*m1)*(x1*k2-x2*k1)=A at *;generalize (m1*k2-m2*k1)*((k1-m1)*(x2-m2)-(k2-m2)*(x1-m1))=B at *;grind
theorem WQ (p q:Rat)(h:p.num.sign*q.num.sign<0→False):¬p*q<0:=fun hh=>by
 have hh:0<p * -q:=by grind
 rcases CY hh with⟨a,b⟩ | ⟨a,b⟩
 ·have h1:=(DJ p).2 a
  have h2:=(GM q).2 (by grind);exact h (Int.mul_neg_of_pos_of_neg h1 h2)
 ·have h1:=(GM p).2 a
  have h2:=(DJ q).2 (by grind);exact h (Int.mul_neg_of_neg_of_pos h1 h2)
theorem Gq (a b p:V2)(h:O1 a b p=false)(h0:Xp (b.sub a) (p.sub a)=0):0<XY (a.sub p) (b.sub p):=by
 unfold O1 K0 at h;rw[h0]at h;have h2:¬ (XY (a.sub p) (b.sub p)).num.sign≤0:=by simpa using h
 exact(DJ _).1 (by omega)
theorem Dh (n a b c d:V2)(h:((XY n a<XY n c∧XY n a<XY n d)∧(XY n b<XY n c∧XY n b<XY n d))∨((XY n c<XY n a∧XY n d<XY n a)∧(XY n c<XY n b∧XY n d<XY n b))):KE n a b c d=true:=by
 unfold KE HZ;simp only[Bool.or_eq_true,Bool.and_eq_true,decide_eq_true_eq];rcases h with⟨⟨h1,h2⟩,h3,h4⟩ | ⟨⟨h1,h2⟩,h3,h4⟩
 ·exact .inl ⟨⟨⟨h1,h2⟩,h3⟩,h4⟩
 ·exact .inr ⟨⟨⟨h1,h3⟩,h2⟩,h4⟩
theorem NW (a b c d:V2)(hab:a≠b)(h:Zz a b c d=false):¬Aq a b c d:=by
 unfold Zz at h;simp only[Bool.or_eq_false_iff]at h;obtain⟨⟨⟨⟨h1,h2⟩,h3⟩,h4⟩,h5⟩:=h;have hx:¬ (b.x-a.x=0∧b.y-a.y=0):=fun⟨e1,e2⟩=>hab (by cases a;cases b;simp only[V2.mk.injEq];exact⟨by grind,by grind⟩)
 have n:=xB (b.x-a.x) (b.y-a.y) (c.x-a.x) (c.y-a.y) (d.x-a.x) (d.y-a.y) hx
  (fun e=>by have:=Gq a b c h2 (by unfold Xp V2.sub;grind);unfold XY V2.sub at this;grind)
  (fun e=>by have:=Gq a b d h3 (by unfold Xp V2.sub;grind);unfold XY V2.sub at this;grind)
  (fun e=>by have:=Gq c d a h4 (by unfold Xp V2.sub;grind);unfold XY V2.sub at this;grind)
  (fun e=>by have:=Gq c d b h5 (by unfold Xp V2.sub;grind);unfold XY V2.sub at this;grind)
  (by
   rintro⟨g1,g2⟩;unfold Br K0 at h1;rw[Bool.and_eq_false_iff,decide_eq_false_iff_not,decide_eq_false_iff_not]at h1;rcases h1 with h1 |h1
   ·have h1:=WQ _ _ h1
    unfold Xp V2.sub at h1;grind
   ·have h1:=WQ _ _ h1
    unfold Xp V2.sub at h1;grind)
 intro hm;rcases n with n |n |n
 ·have:=hm 0 (by omega)
  rw[Dh _ _ _ _ _ ?_]at this
  ·exact absurd this (by decide)
  ·unfold DX XY V2.turned V2.sub
   rcases CY n with⟨g1,g2⟩ | ⟨g1,g2⟩
   ·left;grind
   ·right;grind
 ·have:=hm 1 (by omega)
  rw[Dh _ _ _ _ _ ?_]at this
  ·exact absurd this (by decide)
  ·unfold DX XY V2.turned V2.sub
   rcases CY n with⟨g1,g2⟩ | ⟨g1,g2⟩
   ·right;grind
   ·left;grind
 ·have:=hm 2 (by omega)
  rw[Dh _ _ _ _ _ ?_]at this
  ·exact absurd this (by decide)
  ·unfold DX XY V2.sub
   have hn:=IL hx;rcases n with⟨g1,g2⟩ | ⟨g1,g2⟩
   ·left;grind
   ·right;grind
theorem UH (a b c d:V2):Zz a b c d=Zz c d a b:=by
 unfold Zz;have:Br a b c d=Br c d a b:=by unfold Br;rw[Bool.and_comm]
 rw[this];cases Br c d a b <;> cases O1 a b c <;> cases O1 a b d <;> cases O1 c d a <;> cases O1 c d b <;> rfl
theorem IJ {a b c:V2}(h:¬K0 a b c=0):a≠b:=by
 rintro rfl;refine h ?_;unfold K0;have:Xp (a.sub a) (c.sub a)=0:=by unfold Xp V2.sub;grind
 rw[this];rfl
theorem jR (L:List V2)(h:Am L):Zm L:=by
 obtain⟨h1,h2,h3⟩:=h;refine⟨h1,fun i hi=>⟨(h2 i hi).1,fun k hk hb=>?_⟩,h3⟩;obtain⟨b1,b2,b3⟩:=hb;have hne:∀j,j<L.length→atF L j≠atF L (j+1):=fun j hj=>IJ (h2 j hj).1
 rcases Nat.lt_or_ge k i with hki |hki
 ·have e:(k+L.length-i)%L.length=k+L.length-i:=Nat.mod_eq_of_lt (by omega)
  rw[e]at b1 b2;have hp:=(h2 k hk).2 i (by omega) hi;have hm:(i+1)%L.length≠k:=by
   rcases Nat.lt_or_ge (i+1) L.length with g |g
   ·rw[Nat.mod_eq_of_lt g];omega
   ·rw[show i+1=L.length by omega,Nat.mod_self];omega
  have hf:Zz (atF L k) (atF L (k+1)) (atF L i) (atF L (i+1))=false:=by
   rw[←Bool.not_eq_true];exact fun g=>hp ⟨hm,g⟩
  rw[UH]at hf;exact NW _ _ _ _ (hne i hi) hf b3
 ·have e:(k+L.length-i)%L.length=k-i:=by
   rw[show k+L.length-i=(k-i)+L.length by omega,Nat.add_mod_right,Nat.mod_eq_of_lt (by omega)]
  rw[e]at b1 b2;have hp:=(h2 i hi).2 k (by omega) hk;have hm:(k+1)%L.length≠i:=by
   rcases Nat.lt_or_ge (k+1) L.length with g |g
   ·rw[Nat.mod_eq_of_lt g];omega
   ·rw[show k+1=L.length by omega,Nat.mod_self];omega
  have hf:Zz (atF L i) (atF L (i+1)) (atF L k) (atF L (k+1))=false:=by
   rw[←Bool.not_eq_true];exact fun g=>hp ⟨hm,g⟩
  exact NW _ _ _ _ (hne i hi) hf b3
theorem CX (L:List V2):Zm L↔Am L:=⟨jY L,jR L⟩
end
end Go.Ab.N
