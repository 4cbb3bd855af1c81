/- Contracts of functions, for every argument that fits. -/
import Derived.Test.YtcmfnmceomhgcaaGreatC9
import Derived.Test.YtcmfnmceomhgcaaGreatC6
set_option linter.unusedSimpArgs false
set_option linter.unusedVariables false
namespace Go.Ab.N
open Go Go.RowKit Go.Proofs
noncomputable section
set_option maxRecDepth 10000
set_option maxHeartbeats 4000000
open Classical
def EB:List AV:=[.bool false,.sl 0 0 (fun _=>.any) false,.bool false,.sl 0 0 (fun _=>.any) false]
theorem M7 (b:BB)(g:GG)(h1:vb b.c≤1400)(h2:vb g.p≤1400)(h3:vb g.q≤1400)(h4:vb g.n≤1400):Fn Tryz.prog 84 [bA b,gA g] (I7 5 (Ja b g) goal5):=by
 obtain⟨R,hR⟩:∃R,R=I7 5 (Ja b g) goal5:=⟨_,rfl⟩
 have sR:Settled R:=hR▸Ks _ _ _;have c1:=Cz 1 1 ⟨by omega,by omega⟩ ⟨by omega,by omega⟩;rw[show Rat.divInt 1 1=1 by decide +kernel]at c1;have cm:=Cz (-1) 1 ⟨by omega,by omega⟩ ⟨by omega,by omega⟩;rw[show Rat.divInt (-1) 1 = -1 by decide +kernel]at cm;have c16:=Cz 16 1 ⟨by omega,by omega⟩ ⟨by omega,by omega⟩;rw[show Rat.divInt 16 1=16 by decide +kernel]at c16;have cr:=KA g.rough;have cq:=Rr g.n;have cp:=AX g.p b.c (by unfold rm;omega) (by unfold rm;omega);have cs:=AX g.q b.c (by unfold rm;omega) (by unfold rm;omega);have cl:=LJ g.n (by unfold rm;omega);rw[←hR];refine Fn.intro (fn:=Tryz.f84) Tryz.call84 Tryz.func84 rfl mixed 18 [49,50,51] [2,3005,4,16,17007,18,20,21013,21,22016,22,23017] [16,20,21,22] (by kernel_rfl) (Nat.le_of_ble_eq_true rfl) (JY (Z3 b) (Jh g)) (XG 10 ?_);simp(disch:=omega)only[AS.start,bA,gA,QW,QK,Xl,↓Xd,wG,seval];refine Run.sub (s':=⟨18,[49,50,51],[.any,.any,.ref 0 0 0,.ref 1 0 0,.ref 2 0 0,.any,.any,.any,.any,.any,.any,.any,.any,.any,.any,.any,.any,.any],[],[.row 0 20 (Xf (bC b)),.row 0 32 (Xf (gC g)),.row 0 3 (Xf [I 0,.sl 0 0 (fun _=>.any) true,.sl 0 0 (fun _=>.any) true])]⟩) ?_ (Xi rfl (by simp[Xm]) trivial (by rw[QW,QK];rfl));refine Run.sub ?_ (XC 0 rfl);refine Run.sub ?_ (XC 1 rfl);refine Run.sub ?_ (Xy 2 rfl rfl (by omega));refine Run.sub ?_ (Xy 3 rfl rfl (by omega));refine Run.sub (s':=⟨18,[49,50,51],[.any,.any,bP b,gP g,.ref 2 0 0,.any,.any,.any,.any,.any,.any,.any,.any,.any,.any,.any,.any,.any],[],[.con 0 20 (Xf (bC b)),.con 0 32 (Xf (gC g)),.row 0 3 (Xf [I 0,.sl 0 0 (fun _=>.any) true,.sl 0 0 (fun _=>.any) true])]⟩) ?_ (Xi rfl (by simp[AS.put,Xm,bP,gP]) trivial rfl);refine XG 15 ?_;simp(disch:=omega)only[↓Xd,wG,seval];refine X1 c1 rfl ?_;simp(disch:=omega)only[qA,qC,↓Xd,wG,seval];have w0:=Kd false;have hz':∀ (H:List AO) (j:Nat),j<4→Ke H (Xf EB j) (Xf (qC 0) j):=fun H j hj=>by
  match j,hj with
  |0,_=>exact Q3 w0.1
  |1,_=>exact Q3 w0.2.1
  |2,_=>exact Q3 w0.2.2.1
  |3,_=>exact Q3 w0.2.2.2.1
  |j+4,h=>omega
 refine Run.sub (s':=⟨18,[49,50,51],[.any,.any,bP b,gP g,.ref 2 0 0,.ref 3 0 0,.ref 4 0 0,.any,.any,.any,.any,.any,.any,.any,.any,.any,.any,.any],[],[.con 0 20 (Xf (bC b)),.con 0 32 (Xf (gC g)),.row 0 3 (Xf [I 0,.sl 0 0 (fun _=>.any) true,.sl 0 0 (fun _=>.any) true]),.row 0 4 (Xf EB),.row 0 4 (Xf (qC 1))]⟩) ?_ (Xi rfl (by simp[Xm]) trivial (by rfl));refine Run.sub ?_ (Qo 3 (Xf (qC 0)) rfl (hz' _));refine Run.sub ?_ (XC 3 rfl);refine Run.sub ?_ (XC 4 rfl);refine Run.sub ?_ (Xy 5 rfl rfl (by omega));refine Run.sub ?_ (Xy 6 rfl rfl (by omega));refine Run.sub (s':=⟨18,[49,50,51],[.any,.any,bP b,gP g,.ref 2 0 0,Jx 0,Jx 1,.any,.any,.any,.any,.any,.any,.any,.any,.any,.any,.any],[],[.con 0 20 (Xf (bC b)),.con 0 32 (Xf (gC g)),.row 0 3 (Xf [I 0,.sl 0 0 (fun _=>.any) true,.sl 0 0 (fun _=>.any) true]),.con 0 4 (Xf (qC 0)),.con 0 4 (Xf (qC 1))]⟩) ?_ (Xi rfl (by simp[AS.put,Xm,Jx]) trivial rfl);refine XG 30 ?_;simp(disch:=omega)only[Jx,qA,qC,↓Xd,wG,seval];refine Run.sub (s':=⟨18,[49,50,51],[.any,.any,bP b,gP g,.ref 2 0 0,Jx 0,Jx 1,.ref 5 0 0,.ref 6 0 0,.any,.any,.any,.any,.any,.any,.any,.any,.any],[],[.con 0 20 (Xf (bC b)),.con 0 32 (Xf (gC g)),.row 0 3 (Xf [I 0,.sl 0 0 (fun _=>.any) true,.sl 0 0 (fun _=>.any) true]),.con 0 4 (Xf (qC 0)),.con 0 4 (Xf (qC 1)),
  .row 0 3 (Xf [I 5,.sl 0 0 (fun _=>.any) true,.sl 5 20 (Xf (goal5.flatMap qC)) false]),.row 0 1 (Xf [.fn 164 [.ref 5 0 0]])]⟩) ?_ (Xi rfl (by exact⟨.inl rfl,.inl rfl,.inr rfl,.inr rfl,.inr rfl,.inr rfl,.inr rfl,.inr rfl,.inr rfl,.inl rfl,.inl rfl,.inl rfl,.inl rfl,.inl rfl,.inl rfl,.inl rfl,.inl rfl,.inl rfl,trivial⟩) trivial (by rfl))
 refine Run.sub ?_ (IK (XD Ka 5 K9 []));refine Run.sub ?_ (Qo 5 (Xf [I 5,.osl 7 0 5 0 0,Qb goal5]) rfl (fun j hj=>by
  match j,hj with
  |0,_=>exact XL _ _
  |1,_=>exact BC (f:=XD Ka 5 K9 []) (n:=0) rfl
  |2,_=>exact Q3 (JK rfl (Nat.le_refl _) fun j hj=>by rw[Hm goal5 j hj];exact Weak.rfl' _)
  |j+3,h=>omega))
 refine Run.sub ?_ (XC 6 rfl);refine Run.sub (s':=⟨18,[49,50,51],[.any,.any,bP b,gP g,.ref 2 0 0,Jx 0,Jx 1,.ref 5 0 0,.ref 6 0 0,.any,.any,.any,.any,.any,.any,.any,.any,.any],[],(ZL b g 0 []).take 8⟩) ?_ (Xi rfl (by simp[Xm]) trivial (by rfl));refine XG 29 ?_;have gf:=gF g;have bf:=bF b;simp(disch:=omega)only[ZL,List.take,KG,Ak,gP,gf,Xl,qA,qC,↓Xd,wG,seval];refine X0 cr (X2 _) ?_;simp(disch:=omega)only[ZL,KG,Ak,gP,gf,Xl,qA,qC,↓Xd,wG,seval];refine X0 cl (X2 _) ?_;simp(disch:=omega)only[KG,Ak,qA,qC,↓Xd,wG,seval];refine X1 cm rfl ?_;simp(disch:=omega)only[KG,Ak,qA,qC,↓Xd,wG,seval];have k6:∀n Ls,(ZL b g n Ls)[6]?=some (.con 0 1 (Xf [.fn 164 [.ref 5 0 0]])):=fun _ _=>rfl
 have k8:∀n Ls,(ZL b g n Ls)[8]?=some (.row 0 4 (Xf (qC (-g.rough)))):=fun _ _=>rfl
 have k9:∀n Ls,(ZL b g n Ls)[9]?=some (.row 0 4 (Xf (qC (QA g.n)))):=fun _ _=>rfl
 have k10:∀n Ls,(ZL b g n Ls)[10]?=some (.row 0 4 (Xf (qC (-1)))):=fun _ _=>rfl
 have k6l:∀n Ls l,(ZL b g n Ls ++ l)[6]?=some (.con 0 1 (Xf [.fn 164 [.ref 5 0 0]])):=fun _ _ _=>rfl
 have k8l:∀n Ls l,(ZL b g n Ls ++ l)[8]?=some (.row 0 4 (Xf (qC (-g.rough)))):=fun _ _ _=>rfl
 have k11l:∀n Ls x l,(ZL b g n Ls ++ x :: l)[11]?=some x:=fun _ _ _ _=>rfl
 have kL:∀n Ls l,(ZL b g n Ls ++ l).length=11+l.length:=fun n Ls l=>by rw[List.length_append];rfl
 have kL0:∀n Ls,(ZL b g n Ls).length=11:=fun n Ls=>rfl
 have ks11:∀n Ls x y l,(ZL b g n Ls ++ x :: l).set 11 y=ZL b g n Ls ++ y :: l:=fun _ _ _ _ _=>rfl
 have kb:=fun n Ls=>QB (EF b g n Ls)
 have most0:∀ (n:Nat) (Ls:List Ln) (r:Rat) (l:List Rat),Ls.length=n→n<1000→l.length≤5→0<l.length →
   HCall Tryz.prog 164 [qA r,.sl l.length (l.length*4) (Xn fun i=>l.getD i 0) true,.ref 5 0 0] (ZL b g n Ls) (.tup []) (ZL b g (n+1) (Ls ++ [⟨Jv (fun i=>l.getD i 0) l.length,r⟩]))∧JP (ZL b g n Ls) (ZL b g (n+1) (Ls ++ [⟨Jv (fun i=>l.getD i 0) l.length,r⟩])):=fun n Ls r l e1 e2 e3 e4=>by
  have:=qm b g n l.length Ls r (fun i=>l.getD i 0) e1 e2 e3 e4 [] (fun o ho=>absurd ho (List.not_mem_nil));rw[List.append_nil,List.append_nil]at this;exact this
 obtain⟨ln,hln⟩:∃ln:List Rat→Rat→Ln,ln=fun l r=>⟨Jv (fun i=>l.getD i 0) l.length,r⟩:=⟨_,rfl⟩
 have most1:∀ (n:Nat) (Ls:List Ln) (r:Rat) (l:List Rat),Ls.length=n→n<1000→l.length≤5→0<l.length →
   HCall Tryz.prog 164 [qA r,.sl l.length (l.length*4) (Xn fun i=>l.getD i 0) true,.ref 5 0 0] (ZL b g n Ls) (.tup []) (ZL b g (n+1) (Ls ++ [ln l r]))∧JP (ZL b g n Ls) (ZL b g (n+1) (Ls ++ [ln l r])):=fun n Ls r l e1 e2 e3 e4=>by rw[hln];exact most0 n Ls r l e1 e2 e3 e4
 have most1l:∀ (n:Nat) (Ls:List Ln) (r:Rat) (l:List Rat) (x:List AO),(∀o∈x,∀q,Qa q o)→Ls.length=n→n<1000→l.length≤5→0<l.length →
   HCall Tryz.prog 164 [qA r,.sl l.length (l.length*4) (Xn fun i=>l.getD i 0) true,.ref 5 0 0] (ZL b g n Ls ++ x) (.tup []) (ZL b g (n+1) (Ls ++ [ln l r]) ++ x)∧JP (ZL b g n Ls ++ x) (ZL b g (n+1) (Ls ++ [ln l r]) ++ x):=fun n Ls r l x hx e1 e2 e3 e4=>by rw[hln];exact qm b g n l.length Ls r (fun i=>l.getD i 0) e1 e2 e3 e4 x hx
 refine Run.sub (s':=⟨18,[49,50,51],[.any,.any,bP b,gP g,.ref 2 0 0,Jx 0,Jx 1,.ref 5 0 0,.ref 6 0 0,.ref 8 0 0,.ref 9 0 0,.ref 10 0 0,.any,.any,.any,.any,.any,.any],[],ZL b g 0 []⟩) ?_ (Xi rfl (by exact⟨.inl rfl,.inl rfl,.inr rfl,.inr rfl,.inr rfl,.inr rfl,.inr rfl,.inr rfl,.inr rfl,.inr rfl,.inr rfl,.inr rfl,.inl rfl,.inl rfl,.inl rfl,.inl rfl,.inl rfl,.inl rfl,trivial⟩) trivial (by rfl));refine Xk ?_;simp(disch:=omega)only[k6,k8,k9,k10,Jx,qA,qC,↓Xd,wG,seval];have s1:=most1 0 [] (0) [-1] rfl (by omega) (Nat.le_of_ble_eq_true rfl) (Nat.le_of_ble_eq_true rfl);refine XJ rfl s1.1 s1.2 (kb _ _) ⟨Weak.rfl' _,Js [-1] 1 4 _ rfl rfl rfl,Weak.rfl' _,trivial⟩ ?_;simp(disch:=omega)only[k6,k8,k9,k10,Jx,gP,bP,gf,bf,qA,qC,↓Xd,wG,seval];have s2:=most1 1 [ln [-1] 0] (0) [0,0,-1] rfl (by omega) (Nat.le_of_ble_eq_true rfl) (Nat.le_of_ble_eq_true rfl);refine XJ rfl s2.1 s2.2 (kb _ _) ⟨Weak.rfl' _,Js [0,0,-1] 3 12 _ rfl rfl rfl,Weak.rfl' _,trivial⟩ ?_;simp(disch:=omega)only[k6,k8,k9,k10,Jx,gP,bP,gf,bf,qA,qC,↓Xd,wG,seval];have LI:∃LI:Nat→List Ln,LI 0=[ln [-1] 0,ln [0,0,-1] 0]∧LI 1=[ln [-1] 0,ln [0,0,-1] 0,ln [-g.rough,1] 0,ln [0,0,-g.rough,1] 0]∧LI 2=[ln [-1] 0,ln [0,0,-1] 0,ln [-g.rough,1] 0,ln [0,0,-g.rough,1] 0,ln [-g.rough,-1] 0,ln [0,0,-g.rough,-1] 0]:=⟨fun i=>match i with |0=>[ln [-1] 0,ln [0,0,-1] 0] |1=>[ln [-1] 0,ln [0,0,-1] 0,ln [-g.rough,1] 0,ln [0,0,-g.rough,1] 0] |_=>[ln [-1] 0,ln [0,0,-1] 0,ln [-g.rough,1] 0,ln [0,0,-g.rough,1] 0,ln [-g.rough,-1] 0,ln [0,0,-g.rough,-1] 0],rfl,rfl,rfl⟩
 obtain⟨LI,hL0,hL1,hL2⟩:=LI;rw[←hL0];have bl:∀i,Jq 11 (([.any,.any,bP b,gP g,.ref 2 0 0,Jx 0,Jx 1,.ref 5 0 0,.ref 6 0 0,.ref 8 0 0,.ref 9 0 0,.ref 10 0 0,.any,.any,.any,.any,.any,.any]:List AV).getD i .any):=fun i=>by
  match i with
  |0=>exact X6 Jo
  |1=>exact X6 Jo
  |2=>exact X6 (XI fun j _=>Xe (C7 b) j)
  |3=>exact X6 (XI fun j _=>Xe (KB g) j)
  |4=>exact QH (by omega)
  |5=>exact X6 (XI fun j _=>Xe (QJ 0) j)
  |6=>exact X6 (XI fun j _=>Xe (QJ 1) j)
  |7=>exact QH (by omega)
  |8=>exact QH (by omega)
  |9=>exact QH (by omega)
  |10=>exact QH (by omega)
  |11=>exact QH (by omega)
  |12=>exact X6 Jo
  |13=>exact X6 Jo
  |14=>exact X6 Jo
  |15=>exact X6 Jo
  |16=>exact X6 Jo
  |17=>exact X6 Jo
  |i+18=>exact X6 Jo
 have bl2:∀a∈([.any,.any,bP b,gP g,.ref 2 0 0,Jx 0,Jx 1,.ref 5 0 0,.ref 6 0 0,.ref 8 0 0,.ref 9 0 0,.ref 10 0 0,.any,.any,.any,.any,.any,.any]:List AV),Jq 11 a:=fun a ha=>by
  obtain⟨i,hi,rfl⟩:=List.getElem_of_mem ha;have:=bl i;rwa[List.getD_eq_getElem?_getD,List.getElem?_eq_getElem hi]at this
 have bs:Jq 11 (.sl 2 8 (Xf (qC 1 ++ qC (-1))) true)=True:=eq_true (X6 (J3 fun j _=>Xe (l:=qC 1 ++ qC (-1)) (by simp[qC,Xc,X5]) j));have cx:∀x:Rat,∀o∈[AO.row 0 4 (Xf (qC x))],∀q,Qa q o:=fun x o ho q=>by rw[List.mem_singleton.1 ho];exact EC _ _ _
 have cxu:∀ (x:Rat) n Ls,QZ (ZL b g n Ls ++ [AO.row 0 4 (Xf (qC x))]):=fun x n Ls=>Kf (EF b g n Ls) fun o ho=>by rw[List.mem_singleton.1 ho];simp
 refine Xj (fun i:Nat=>⟨18,[49,50,51],[.any,.any,bP b,gP g,.ref 2 0 0,Jx 0,Jx 1,.ref 5 0 0,.ref 6 0 0,.ref 8 0 0,.ref 9 0 0,.ref 10 0 0,.any,.any,.any,.any,.any,.any],[(49,.sl 2 8 (Xf (qC 1 ++ qC (-1))) true),(50,I 2),(51,I i)],ZL b g (2+2*i) (LI i)⟩) (fun i=>i≤2) (fun i=>2-i) 0 (by omega)
  (Xi rfl ⟨.inl rfl,.inl rfl,.inr rfl,.inr rfl,.inr rfl,.inr rfl,.inr rfl,.inr rfl,.inr rfl,.inr rfl,.inr rfl,.inr rfl,.inl rfl,.inl rfl,.inl rfl,.inl rfl,.inl rfl,.inl rfl,trivial⟩ (by exact⟨.inr rfl,.inr rfl,.inr rfl,trivial⟩) (by rfl)) ?_
 intro i hi next
 match i,hi with
 |0,_ =>
  have nx:=next 1
  refine Xk ?_;simp(disch:=omega)only[k6l,k8l,k11l,kL,kL0,ks11,Jx,gP,bP,qA,qC,List.append_assoc,↓Xd,wG,seval];have u00:=most1l 2 (LI 0) 0 [-g.rough,1] [.row 0 4 (Xf (qC (1)))] (cx _) (by rw[hL0];rfl) (by omega) (Nat.le_of_ble_eq_true rfl) (Nat.le_of_ble_eq_true rfl);refine XJ rfl u00.1 u00.2 (QB (cxu _ _ _)) ⟨Weak.rfl' _,Js [-g.rough,1] 2 8 _ rfl rfl rfl,Weak.rfl' _,trivial⟩ ?_;simp(disch:=omega)only[k6l,k8l,k11l,kL,kL0,ks11,Jx,gP,bP,qA,qC,List.append_assoc,↓Xd,wG,seval];have u01:=most1l 3 (LI 0 ++ [ln [-g.rough,1] 0]) 0 [0,0,-g.rough,1] [.row 0 4 (Xf (qC (1)))] (cx _) (by rw[hL0];rfl) (by omega) (Nat.le_of_ble_eq_true rfl) (Nat.le_of_ble_eq_true rfl);refine XJ rfl u01.1 u01.2 (QB (cxu _ _ _)) ⟨Weak.rfl' _,Js [0,0,-g.rough,1] 4 16 _ rfl rfl rfl,Weak.rfl' _,trivial⟩ ?_;simp(disch:=omega)only[k6l,k8l,k11l,kL,kL0,ks11,Jx,gP,bP,qA,qC,List.append_assoc,↓Xd,wG,seval];refine nx _ (by omega) (by omega) (XT (m:=11) (Nat.zero_le _) rfl ⟨.inl rfl,.inl rfl,.inr rfl,.inr rfl,.inr rfl,.inr rfl,.inr rfl,.inr rfl,.inr rfl,.inr rfl,.inr rfl,.inr rfl,.inl rfl,.inl rfl,.inl rfl,.inl rfl,.inl rfl,.inl rfl,trivial⟩ (by exact⟨.inr rfl,.inr rfl,.inr rfl,trivial⟩) (by rw[hL1];simp only[hL0];rfl) bl2 (by simp[XW,bs]) (fun o ho=>G1 b g _ _ o ho _ (Nat.le_refl _)))
 |1,_ =>
  have nx:=next 2
  refine Xk ?_;simp(disch:=omega)only[k6l,k8l,k11l,kL,kL0,ks11,Jx,gP,bP,qA,qC,List.append_assoc,↓Xd,wG,seval];have u10:=most1l 4 (LI 1) 0 [-g.rough,-1] [.row 0 4 (Xf (qC (-1)))] (cx _) (by rw[hL1];rfl) (by omega) (Nat.le_of_ble_eq_true rfl) (Nat.le_of_ble_eq_true rfl);refine XJ rfl u10.1 u10.2 (QB (cxu _ _ _)) ⟨Weak.rfl' _,Js [-g.rough,-1] 2 8 _ rfl rfl rfl,Weak.rfl' _,trivial⟩ ?_;simp(disch:=omega)only[k6l,k8l,k11l,kL,kL0,ks11,Jx,gP,bP,qA,qC,List.append_assoc,↓Xd,wG,seval];have u11:=most1l 5 (LI 1 ++ [ln [-g.rough,-1] 0]) 0 [0,0,-g.rough,-1] [.row 0 4 (Xf (qC (-1)))] (cx _) (by rw[hL1];rfl) (by omega) (Nat.le_of_ble_eq_true rfl) (Nat.le_of_ble_eq_true rfl);refine XJ rfl u11.1 u11.2 (QB (cxu _ _ _)) ⟨Weak.rfl' _,Js [0,0,-g.rough,-1] 4 16 _ rfl rfl rfl,Weak.rfl' _,trivial⟩ ?_;simp(disch:=omega)only[k6l,k8l,k11l,kL,kL0,ks11,Jx,gP,bP,qA,qC,List.append_assoc,↓Xd,wG,seval];refine nx _ (by omega) (by omega) (XT (m:=11) (Nat.zero_le _) rfl ⟨.inl rfl,.inl rfl,.inr rfl,.inr rfl,.inr rfl,.inr rfl,.inr rfl,.inr rfl,.inr rfl,.inr rfl,.inr rfl,.inr rfl,.inl rfl,.inl rfl,.inl rfl,.inl rfl,.inl rfl,.inl rfl,trivial⟩ (by exact⟨.inr rfl,.inr rfl,.inr rfl,trivial⟩) (by rw[hL2];simp only[hL1];rfl) bl2 (by simp[XW,bs]) (fun o ho=>G1 b g _ _ o ho _ (Nat.le_refl _)))
 |2,_ =>
  clear next
  have k12l:∀n Ls x y l,(ZL b g n Ls ++ x :: y :: l)[12]?=some y:=fun _ _ _ _ _=>rfl
  have k13l:∀n Ls x y z l,(ZL b g n Ls ++ x :: y :: z :: l)[13]?=some z:=fun _ _ _ _ _ _=>rfl
  have ks12:∀n Ls x y w l,(ZL b g n Ls ++ x :: y :: l).set 12 w=ZL b g n Ls ++ x :: w :: l:=fun _ _ _ _ _ _=>rfl
  have ks13:∀n Ls x y z w l,(ZL b g n Ls ++ x :: y :: z :: l).set 13 w=ZL b g n Ls ++ x :: y :: w :: l:=fun _ _ _ _ _ _ _=>rfl
  refine XG 144 ?_;simp(disch:=omega)only[k6,k8,k9,k10,Jx,gP,bP,gf,bf,qA,qC,↓Xd,wG,seval];have v0:=most1 6 (LI 2) (g.force) [QA g.n] (by rw[hL2];rfl) (by omega) (Nat.le_of_ble_eq_true rfl) (Nat.le_of_ble_eq_true rfl);refine XJ rfl v0.1 v0.2 (kb _ _) ⟨Weak.rfl' _,Js [QA g.n] 1 4 _ rfl rfl rfl,Weak.rfl' _,trivial⟩ ?_;simp(disch:=omega)only[k6,k8,k9,k10,Jx,gP,bP,gf,bf,qA,qC,List.append_assoc,↓Xd,wG,seval];have v1:=most1 7 (LI 2 ++ [ln [QA g.n] g.force]) (g.force) [0,0,QA g.n] (by rw[hL2];rfl) (by omega) (Nat.le_of_ble_eq_true rfl) (Nat.le_of_ble_eq_true rfl);simp only[List.append_assoc,List.cons_append,List.nil_append]at v1;refine XJ rfl v1.1 v1.2 (kb _ _) ⟨Weak.rfl' _,Js [0,0,QA g.n] 3 12 _ rfl rfl rfl,Weak.rfl' _,trivial⟩ ?_;simp(disch:=omega)only[k6,k8,k9,k10,Jx,gP,bP,gf,bf,qA,qC,List.append_assoc,↓Xd,wG,seval];have v2:=most1 8 (LI 2 ++ [ln [QA g.n] g.force,ln [0,0,QA g.n] g.force]) (b.strength) [QA g.n,0,QA g.n] (by rw[hL2];rfl) (by omega) (Nat.le_of_ble_eq_true rfl) (Nat.le_of_ble_eq_true rfl);simp only[List.append_assoc,List.cons_append,List.nil_append]at v2;refine XJ rfl v2.1 v2.2 (kb _ _) ⟨Weak.rfl' _,Js [QA g.n,0,QA g.n] 3 12 _ rfl rfl rfl,Weak.rfl' _,trivial⟩ ?_;simp(disch:=omega)only[k6,k8,k9,k10,Jx,gP,bP,gf,bf,qA,qC,List.append_assoc,↓Xd,wG,seval];refine X1 c16 rfl ?_;simp(disch:=omega)only[k6,k8,k9,k10,Jx,gP,bP,gf,bf,qA,qC,↓Xd,wG,seval];have v3:=most1 9 (LI 2 ++ [ln [QA g.n] g.force,ln [0,0,QA g.n] g.force,ln [QA g.n,0,QA g.n] b.strength]) (16) [0,0,0,0,1] (by rw[hL2];rfl) (by omega) (Nat.le_of_ble_eq_true rfl) (Nat.le_of_ble_eq_true rfl);simp only[List.append_assoc,List.cons_append,List.nil_append]at v3;refine XJ rfl v3.1 v3.2 (kb _ _) ⟨Weak.rfl' _,Js [0,0,0,0,1] 5 20 _ rfl rfl rfl,Weak.rfl' _,trivial⟩ ?_;simp(disch:=omega)only[k6,k8,k9,k10,Jx,gP,bP,gf,bf,qA,qC,List.append_assoc,↓Xd,wG,seval];have v4:=most1 10 (LI 2 ++ [ln [QA g.n] g.force,ln [0,0,QA g.n] g.force,ln [QA g.n,0,QA g.n] b.strength,ln [0,0,0,0,1] 16]) (0) [0,0,0,0,-1] (by rw[hL2];rfl) (by omega) (Nat.le_of_ble_eq_true rfl) (Nat.le_of_ble_eq_true rfl);simp only[List.append_assoc,List.cons_append,List.nil_append]at v4;refine XJ rfl v4.1 v4.2 (kb _ _) ⟨Weak.rfl' _,Js [0,0,0,0,-1] 5 20 _ rfl rfl rfl,Weak.rfl' _,trivial⟩ ?_;simp(disch:=omega)only[k6,k8,k9,k10,Jx,gP,bP,gf,bf,qA,qC,List.append_assoc,↓Xd,wG,seval];refine X0 cq (X2 _) ?_;simp(disch:=omega)only[k6,k8,k9,k10,Jx,gP,bP,gf,bf,qA,qC,vC,vA,↓Xd,wG,seval];refine X0 cp (X2 _) ?_;simp(disch:=omega)only[k6,k8,k9,k10,Jx,gP,bP,gf,bf,qA,qC,vC,vA,↓Xd,wG,seval];refine X0 cs (X2 _) ?_;simp(disch:=omega)only[k6,k8,k9,k10,Jx,gP,bP,gf,bf,qA,qC,vC,vA,kL0,k11l,k12l,k13l,ks11,ks12,ks13,↓Xd,wG,seval];obtain⟨LL,hLL⟩:∃LL,LL=LI 2 ++ [ln [QA g.n] g.force,ln [0,0,QA g.n] g.force,ln [QA g.n,0,QA g.n] b.strength,ln [0,0,0,0,1] 16,ln [0,0,0,0,-1] 0]:=⟨_,rfl⟩
  have hLn:LL.length=11:=by rw[hLL,hL2];rfl
  rw[←hLL];obtain⟨tt,htt⟩:∃t,t=g.n.turned:=⟨_,rfl⟩
  obtain⟨tp,htp⟩:∃t,t=g.p.sub b.c:=⟨_,rfl⟩
  obtain⟨tq,htq⟩:∃t,t=g.q.sub b.c:=⟨_,rfl⟩
  rw[←htt,←htp,←htq];refine Run.sub (s':=⟨18,[49,50,51],[.any,.any,bP b,gP g,.ref 2 0 0,Jx 0,Jx 1,.ref 5 0 0,.ref 6 0 0,.any,.any,.any,.any,.any,.ref 11 0 0,.ref 12 0 0,.ref 13 0 0,.any],[],ZL b g 11 LL ++ [.row 0 8 (Xf (vC tt)),.row 0 8 (Xf (vC tp)),.row 0 8 (Xf (vC tq))]⟩) ?_ (Xi rfl (by exact⟨.inl rfl,.inl rfl,.inr rfl,.inr rfl,.inr rfl,.inr rfl,.inr rfl,.inr rfl,.inr rfl,.inl rfl,.inl rfl,.inl rfl,.inl rfl,.inl rfl,.inr rfl,.inr rfl,.inr rfl,.inl rfl,trivial⟩) trivial (by rfl));refine Run.sub ?_ (XC 11 rfl);refine Run.sub ?_ (XC 12 rfl);refine Run.sub ?_ (XC 13 rfl);refine Run.sub ?_ (Xy 14 rfl rfl (by omega));refine Run.sub ?_ (Xy 15 rfl rfl (by omega));refine Run.sub ?_ (Xy 16 rfl rfl (by omega));refine Run.sub (s':=⟨18,[49,50,51],[.any,.any,bP b,gP g,.ref 2 0 0,Jx 0,Jx 1,.ref 5 0 0,.ref 6 0 0,.any,.any,.any,.any,.any,.ptr 8 (Xf (vC tt)) 0,.ptr 8 (Xf (vC tp)) 0,.ptr 8 (Xf (vC tq)) 0,.any],[],ZL b g 11 LL ++ [.con 0 8 (Xf (vC tt)),.con 0 8 (Xf (vC tp)),.con 0 8 (Xf (vC tq))]⟩) ?_ (Xi rfl (by simp[AS.put,Xm,Jx]) trivial rfl);obtain⟨X3,hX3⟩:∃X:List AO,X=[.con 0 8 (Xf (vC tt)),.con 0 8 (Xf (vC tp)),.con 0 8 (Xf (vC tq))]:=⟨_,rfl⟩
  have xb:∀o∈X3,(∀q,Qa q o)∧o≠.unborn:=fun o ho=>by
   rw[hX3]at ho;simp only[List.mem_cons,List.not_mem_nil,or_false]at ho;rcases ho with rfl |rfl |rfl <;> exact⟨fun q j _=>X6 (Xe (by simp[vC,Xc,X5]) j),by simp⟩
  have xl:∀n Ls,(ZL b g n Ls ++ X3).length=14:=fun n Ls=>by rw[List.length_append,hX3];rfl
  have kx:∀n Ls,QZ (ZL b g n Ls ++ X3):=fun n Ls=>Kf (EF b g n Ls) fun o ho=>(xb o ho).2
  have k6x:∀n Ls,(ZL b g n Ls ++ X3)[6]?=some (.con 0 1 (Xf [.fn 164 [.ref 5 0 0]])):=fun _ _=>rfl
  rw[←hX3];have eq1:∀ (n:Nat) (Ls:List Ln) (l:List Rat),Ls.length=n→n<1000→l.length≤5→0<l.length →
    HCall Tryz.prog 167 [.sl l.length (l.length*4) (Xn fun i=>l.getD i 0) true,.ref 6 0 0,Jx 0] (ZL b g n Ls ++ X3) (.tup []) (ZL b g (n+2) (Ls ++ [ln l 0] ++ [ln (l.map fun r=>-r) 0]) ++ X3)∧JP (ZL b g n Ls ++ X3) (ZL b g (n+2) (Ls ++ [ln l 0] ++ [ln (l.map fun r=>-r) 0]) ++ X3):=fun n Ls l e1 e2 e3 e4=>by
   have:=rS b g n l.length Ls (fun i=>l.getD i 0) e1 e2 e3 e4 X3 xb;have ep:ln (l.map fun r=>-r) 0=⟨Jv (fun i=>-l.getD i 0) l.length,0⟩:=by
    rw[hln];simp only[List.length_map];congr 1;unfold Jv;refine List.map_congr_left fun i _=>?_
    by_cases h:i<l.length
    ·simp[h]
    ·simp[h]
   rw[ep,hln];exact this
  refine Xk ?_;simp(disch:=omega)only[k6x,Jx,gP,bP,gf,bf,qA,qC,vC,vA,xl,↓Xd,wG,seval];refine X0 (KA g.n.x) (X2 _) ?_;simp(disch:=omega)only[k6x,Jx,gP,bP,gf,bf,qA,qC,vC,vA,xl,↓Xd,wG,seval];refine X0 (KA tt.x) (X2 _) ?_;simp(disch:=omega)only[k6x,Jx,gP,bP,gf,bf,qA,qC,vC,vA,xl,↓Xd,wG,seval];have e1:=eq1 11 LL [g.n.x,tt.x,-g.n.x,-tt.x] hLn (by omega) (Nat.le_of_ble_eq_true rfl) (Nat.le_of_ble_eq_true rfl);refine XJ rfl e1.1 e1.2 (QB (kx _ _)) ⟨Js [g.n.x,tt.x,-g.n.x,-tt.x] 4 16 _ rfl rfl rfl,Weak.rfl' _,Weak.rfl' _,trivial⟩ ?_;simp(disch:=omega)only[k6x,Jx,gP,bP,gf,bf,qA,qC,vC,vA,xl,↓Xd,wG,seval];refine X0 (KA g.n.y) (X2 _) ?_;simp(disch:=omega)only[k6x,Jx,gP,bP,gf,bf,qA,qC,vC,vA,xl,↓Xd,wG,seval];refine X0 (KA tt.y) (X2 _) ?_;simp(disch:=omega)only[k6x,Jx,gP,bP,gf,bf,qA,qC,vC,vA,xl,↓Xd,wG,seval];refine X0 (KA b.heavy) (X2 _) ?_;simp(disch:=omega)only[k6x,Jx,gP,bP,gf,bf,qA,qC,vC,vA,xl,↓Xd,wG,seval];have e2:=eq1 13 (LL ++ [ln [g.n.x,tt.x,-g.n.x,-tt.x] 0] ++ [ln [-g.n.x,-tt.x,- -g.n.x,- -tt.x] 0]) [g.n.y,tt.y,-g.n.y,-tt.y,-b.heavy] (by simp[hLn]) (by omega) (Nat.le_of_ble_eq_true rfl) (Nat.le_of_ble_eq_true rfl);refine XJ rfl e2.1 e2.2 (QB (kx _ _)) ⟨Js [g.n.y,tt.y,-g.n.y,-tt.y,-b.heavy] 5 20 _ rfl rfl rfl,Weak.rfl' _,Weak.rfl' _,trivial⟩ ?_;simp(disch:=omega)only[k6x,Jx,gP,bP,gf,bf,qA,qC,vC,vA,xl,↓Xd,wG,seval];have bt:vb tt≤1400:=by rw[htt,BI];exact h4
  have bp:vb tp≤2801:=by have:=QO g.p b.c;rw[htp];omega
  have bq:vb tq≤2801:=by have:=QO g.q b.c;rw[htq];omega
  have w1:=AC tp g.n (by unfold vm;omega) (by unfold vm;omega);have w2:=AC tp tt (by unfold vm;omega) (by unfold vm;omega);have w3:=AC tq g.n (by unfold vm;omega) (by unfold vm;omega);have w4:=AC tq tt (by unfold vm;omega) (by unfold vm;omega);refine X0 w1 (X2 _) ?_;simp(disch:=omega)only[k6x,Jx,gP,bP,gf,bf,qA,qC,vC,vA,xl,↓Xd,wG,seval];refine X0 w2 (X2 _) ?_;simp(disch:=omega)only[k6x,Jx,gP,bP,gf,bf,qA,qC,vC,vA,xl,↓Xd,wG,seval];refine X0 w3 (X2 _) ?_;simp(disch:=omega)only[k6x,Jx,gP,bP,gf,bf,qA,qC,vC,vA,xl,↓Xd,wG,seval];refine X0 (KA _) (X2 _) ?_;simp(disch:=omega)only[k6x,Jx,gP,bP,gf,bf,qA,qC,vC,vA,xl,↓Xd,wG,seval];refine X0 w4 (X2 _) ?_;simp(disch:=omega)only[k6x,Jx,gP,bP,gf,bf,qA,qC,vC,vA,xl,↓Xd,wG,seval];refine X0 (KA _) (X2 _) ?_;simp(disch:=omega)only[k6x,Jx,gP,bP,gf,bf,qA,qC,vC,vA,xl,↓Xd,wG,seval];have e3:=eq1 15 (LL ++ [ln [g.n.x,tt.x,-g.n.x,-tt.x] 0] ++ [ln [-g.n.x,-tt.x,- -g.n.x,- -tt.x] 0] ++ [ln [g.n.y,tt.y,-g.n.y,-tt.y,-b.heavy] 0] ++ [ln [-g.n.y,-tt.y,- -g.n.y,- -tt.y,- -b.heavy] 0]) [Xp tp g.n,Xp tp tt,-Xp tq g.n,-Xp tq tt] (by simp[hLn]) (by omega) (Nat.le_of_ble_eq_true rfl) (Nat.le_of_ble_eq_true rfl);refine XJ rfl e3.1 e3.2 (QB (kx _ _)) ⟨Js [Xp tp g.n,Xp tp tt,-Xp tq g.n,-Xp tq tt] 4 16 _ rfl rfl rfl,Weak.rfl' _,Weak.rfl' _,trivial⟩ ?_;have k2x:∀n Ls,(ZL b g n Ls ++ X3)[2]?=some (.row 0 3 (Xf [I 0,.sl 0 0 (fun _=>.any) true,.sl 0 0 (fun _=>.any) true])):=fun _ _=>rfl
  have k5x:∀n Ls,(ZL b g n Ls ++ X3)[5]?=some (KG 7 n goal5):=fun _ _=>rfl
  simp(disch:=omega)only[k6x,k2x,k5x,KG,Jx,gP,bP,gf,bf,qA,qC,vC,vA,xl,↓Xd,wG,seval];refine⟨rfl,?_⟩;have hF:LL ++ [ln [g.n.x,tt.x,-g.n.x,-tt.x] 0] ++ [ln [-g.n.x,-tt.x,- -g.n.x,- -tt.x] 0] ++ [ln [g.n.y,tt.y,-g.n.y,-tt.y,-b.heavy] 0] ++ [ln [-g.n.y,-tt.y,- -g.n.y,- -tt.y,- -b.heavy] 0] ++ [ln [Xp tp g.n,Xp tp tt,-Xp tq g.n,-Xp tq tt] 0] ++ [ln [-Xp tp g.n,-Xp tp tt,- -Xp tq g.n,- -Xp tq tt] 0]=Ja b g:=by
   rw[hLL,hL2,hln,htt,htp,htq];rfl
  refine Bl (L:=[I 5,.osl 7 17 5 0 17,Qb goal5]) rfl iH rfl rfl rfl ?_;rw[hR];refine Eo ⟨Q1 (Xb _) rfl,?_,Q1 (Xz _) rfl,trivial⟩;refine Z2 (m:=85) (M:=85) (ver:=17) (f:=XD Ka 5 K9 (Ja b g)) (.inl ?_) (by omega) (by omega) fun j hj=>?_
  ·rw[←hF];rfl
  ·rw[Nat.zero_add]
   exact(Xe (Kp _) _).sees _
 |i+3,h=>omega
def Ps:RQ:=RQ.of 0
def oH (l:List RQ):AV:=jX RQ.L 4 Ps l
theorem Bw (l:List RQ):oH l=.sl l.length (l.length*4) (XD RQ.L 4 Ps l) false:=nrfl rfl
theorem SA (x:RQ):∀a∈x.L,Settled a:=by simp[RQ.L,Xc,X5]
theorem Er (l:List RQ):Settled (oH l):=Z5 fun a x hx=>SA a x hx
theorem wX (l:List RQ)(i:Nat):XD RQ.L 4 Ps l (i*4)=.bool (l.getD i Ps).pn∧XD RQ.L 4 Ps l (i*4+1)=X8 (l.getD i Ps).pd∧XD RQ.L 4 Ps l (i*4+2)=.bool (l.getD i Ps).qn∧XD RQ.L 4 Ps l (i*4+3)=X8 (l.getD i Ps).qd:=by
 refine⟨?_,?_,?_,?_⟩
 ·rw[Z7 _ _ _ _ _ (by omega)];rfl
 all_goals rw[KS _ _ _ _ _ _ (by omega)];rfl
theorem ag (s:List RQ)(f:FuncId)(caps:List AV)(p:RQ→Bool)(hl:s.length<1000000)(hc:∀ a∈caps,Settled a)(hp:∀x∈s,Fn Tryz.prog f ([x.A] ++ caps) (.bool (p x))) :
  Fn Tryz.prog 205 [oH s,.fn f caps] (I (Io p s)):=by
 refine Fn.intro (fn:=Tryz.f205) Tryz.call205 Tryz.func205 rfl mixed 6 [6,7,8] [] [] (by kernel_rfl) (Nat.le_of_ble_eq_true rfl) (JY (Er s) (Jg hc)) (Xk ?_);simp(disch:=omega)only[AS.start,Bw,↓Xd,wG,seval];refine Xj (fun j:Nat=>⟨6,[6,7,8],[oH s,.fn f caps,.any,.any,.any,.any],[(6,oH s),(7,I s.length),(8,I j)],[]⟩) (fun j=>j≤s.length∧∀i,i<j→p (s.getD i Ps)=false) (fun j=>s.length-j) 0 ⟨by omega,by omega⟩
  (Xi rfl (by simp[Xm,I,Bw]) (by simp[Xw,XA,I,Bw]) rfl) ?_
 rintro j ⟨hj,hno⟩ next
 by_cases h:j<s.length
 ·obtain⟨l1,l2,l3,l4⟩:=wX s j
  have c1:=hp _ (Qp Ps h);refine Xk ?_;simp(disch:=omega)only[Bw,l1,l2,l3,l4,↓Xd,wG,seval];refine X0 c1 (X2 _) ?_;simp(disch:=omega)only[↓Xd,wG,seval];refine Qg (fun ht=>Xo (v:=I j) rfl rfl (Xb _) ?_) (fun hf=>next (j+1) _ ⟨by omega,fun i hi=>?_⟩ (by omega) (Xi rfl ?_ ?_ rfl))
  ·rw[LS Ps h ht hno]
  ·by_cases e:i=j
   ·rw[e];exact hf
   ·exact hno i (by omega)
  ·simp[Xm,I,Bw]
  ·simp[Xw,XA,I,Bw]
 ·obtain rfl:j=s.length:=by omega
  refine Xk ?_;simp(disch:=omega)only[Bw,↓Xd,wG,seval];exact Xo (v:=I (-1)) rfl rfl (Xb _) (by rw[Hs Ps fun i hi=>hno i hi])
theorem G5 (s:List RQ)(f:FuncId)(caps:List AV)(p:RQ→Bool)(hl:s.length<1000000)(hc:∀ a∈caps,Settled a)(hp:∀x∈s,Fn Tryz.prog f ([x.A] ++ caps) (.bool (p x))) :
  Fn Tryz.prog 177 [oH s,.fn f caps] (.bool (s.any p)):=by
 refine Fn.intro (fn:=Tryz.f177) Tryz.call177 Tryz.func177 rfl mixed 4 [] [] [] (by kernel_rfl) (Nat.le_of_ble_eq_true rfl) (JY (Er s) (Jg hc)) (Xk ?_);simp(disch:=omega)only[AS.start,↓Xd,wG,seval];refine X0 (ag s f caps p hl hc hp) (X2 _) ?_;simp(disch:=omega)only[↓Xd,wG,seval];exact Xo (v:=.bool (decide (0≤Io p s))) rfl rfl (X5 _) (by rw[LR])
theorem Uh (x:RQ)(hx:x.sz<1000000000):Fn Tryz.prog 178 [x.A] (.bool (!decide x.ok)):=by
 refine Fn.intro (fn:=Tryz.f178) Tryz.call178 Tryz.func178 rfl mixed 2 [] [] [] (by kernel_rfl) (Nat.le_of_ble_eq_true rfl) (fun a ha=>List.mem_singleton.1 ha▸C6 x) (Xk ?_);simp(disch:=omega)only[AS.start,RQ.A,RQ.L,↓Xd,wG,seval];refine X0 (O5 x hx) (X2 _) ?_;simp(disch:=omega)only[↓Xd,wG,seval];exact Xo rfl rfl (X5 _) rfl
theorem YU (s:List RQ)(hl:s.length<1000000)(hx:∀x∈s,x.sz<1000000000):Fn Tryz.prog 98 [oH s] (.bool (s.all fun x=>decide x.ok)):=by
 refine Fn.intro (fn:=Tryz.f98) Tryz.call98 Tryz.func98 rfl mixed 2 [] [] [] (by kernel_rfl) (Nat.le_of_ble_eq_true rfl) (fun a ha=>List.mem_singleton.1 ha▸Er s) (Xk ?_);simp(disch:=omega)only[AS.start,↓Xd,wG,seval];refine X0 (G5 s 178 [] (fun x=>!decide x.ok) hl (by simp) fun x h=>Uh x (hx x h)) (X2 _) ?_;simp(disch:=omega)only[↓Xd,wG,seval];exact Xo rfl rfl (X5 _) (congrArg AV.bool (by rw[List.not_any_eq_all_not];simp))
theorem v8 (r:Rat):(RQ.of r).ok:=⟨r,rfl⟩
theorem vE (r:Rat)(h:qb r≤rm):(RQ.of r).sz<1000000000:=by
 have:=RQ.of_sz r;unfold rm at h;omega
theorem Gj (l:List Rat)(hl:l.length<1000000)(hx:∀r∈l,qb r≤rm):Fn Tryz.prog 98 [Qb l] (.bool true):=by
 have:=YU (l.map RQ.of) (by simpa using hl) (fun x h=>by obtain⟨r,hr,rfl⟩:=List.mem_map.1 h;exact vE r (hx r hr));have e:oH (l.map RQ.of)=Qb l:=by
  rw[Bw,Xr,List.length_map];congr 1;funext j;unfold XD Xn;rw[show(l.map RQ.of).getD (j/4) Ps=RQ.of (l.getD (j/4) 0)by rw[Ps,List.getD_eq_getElem?_getD,List.getElem?_map,List.getD_eq_getElem?_getD,Option.getD_map]];rfl
 rw[e]at this;have e2:((l.map RQ.of).all fun x=>decide x.ok)=true:=by
  rw[List.all_eq_true];intro x h;obtain⟨r,hr,rfl⟩:=List.mem_map.1 h;exact decide_eq_true (v8 r)
 rw[e2]at this;exact this
theorem C9 (r:Rat):(0<r.num.sign)=(0<r):=propext (by rw[Int.sign_pos_iff,Rat.lt_iff];simp)
theorem Cq (r:Rat):(0≤r.num.sign)=(0≤r):=propext (by rw[Int.sign_nonneg_iff,Rat.num_nonneg])
def Ba (f r:Rat):Bool:=decide (0<f∧0≤r∧r≤4)
theorem F9 (l:List Rat)(n m:Nat)(L:List AV)(hL:L=l.flatMap qC)(hn:n=l.length)(hm:m=l.length*4):Weak (.sl n m (Xf L) true) (Qb l):=by
 subst hn hm hL;rw[Xr];exact JK rfl (Nat.le_refl _) fun j hj=>by rw[Hm l j hj];exact Weak.rfl' _
theorem LH (f r:Rat)(h1:qb f≤rm)(h2:qb r≤rm):Fn Tryz.prog 113 [qA f,qA r] (.bool (Ba f r)):=by
 have c1:=Gj [f,r] (by simp) (by simp[h1,h2]);have c2:=Qe f;have c3:=Qe r;have c4:=Cz 4 1 ⟨by omega,by omega⟩ ⟨by omega,by omega⟩;rw[show Rat.divInt 4 1=4 by decide +kernel]at c4;have c5:=QR r 4 h2 (by decide +kernel);refine Fn.intro (fn:=Tryz.f113) Tryz.call113 Tryz.func113 rfl mixed 4 [] [] [] (by kernel_rfl) (Nat.le_of_ble_eq_true rfl) (JY (Xa f) (Xa r)) (Xk ?_);simp(disch:=omega)only[AS.start,qA,qC,↓Xd,wG,seval];refine X0 c1 ⟨F9 [f,r] _ _ _ rfl rfl rfl,trivial⟩ ?_;simp(disch:=omega)only[↓Xd,wG,seval];refine X0 c2 (X2 _) ?_;simp(disch:=omega)only[C9,Cq,↓Xd,wG,seval];refine⟨fun h=>?_,fun h=>?_⟩
 ·refine X0 c3 (X2 _) ?_
  simp(disch:=omega)only[h,C9,Cq,↓Xd,wG,seval];refine⟨fun h2=>?_,fun h2=>?_⟩
  ·refine X1 c4 rfl ?_
   simp(disch:=omega)only[h,h2,qA,qC,↓Xd,wG,seval];refine X0 c5 (X2 _) ?_;simp(disch:=omega)only[h,h2,↓Xd,wG,seval];exact Xo (v:=.bool (decide (Bs r 4≤0))) rfl rfl (X5 _) (congrArg AV.bool (by unfold Ba;exact decide_eq_decide.2 (by rw[Zj];simp[h,h2])))
  ·exact Xo (v:=.bool false) rfl rfl (X5 _) (by simp[Ba,h,h2])
 ·exact Xo (v:=.bool false) rfl rfl (X5 _) (by simp[Ba,h])
def Ag (b:BB):Bool:=decide (0<b.light∧b.light≤b.heavy∧0<b.strength)
def Zo (g:GG):Bool:=Ba g.force g.rough && decide (0<QA g.n)
def vW (b:BB):Prop:=vb b.c≤rm∧qb b.light≤rm∧qb b.heavy≤rm∧qb b.strength≤rm
def vO (g:GG):Prop:=vb g.p≤rm∧vb g.q≤rm∧vb g.n≤rm∧qb g.force≤rm∧qb g.rough≤rm
theorem LF (b:BB)(hb:vW b):Fn Tryz.prog 83 [bA b] (.bool (Ag b)):=by
 obtain⟨h1,h2,h3,h4⟩:=hb;have:=J8 b.c;have:=J4 b.c;have c1:=Gj [b.c.x,b.c.y,b.light,b.heavy,b.strength] (by simp) (by simp only[List.mem_cons,List.not_mem_nil,or_false];rintro r (rfl |rfl |rfl |rfl |rfl) <;> omega);have c2:=Qe b.light;have c3:=QR b.light b.heavy h2 h3;have c4:=Qe b.strength;refine Fn.intro (fn:=Tryz.f83) Tryz.call83 Tryz.func83 rfl mixed 2 [] [] [] (by kernel_rfl) (Nat.le_of_ble_eq_true rfl) (fun a ha=>List.mem_singleton.1 ha▸Z3 b) (Xk ?_);have bf:=bF b;simp(disch:=omega)only[AS.start,bA,QW,Xl,↓Xd,wG,seval];refine X0 c1 ⟨F9 [b.c.x,b.c.y,b.light,b.heavy,b.strength] _ _ _ rfl rfl rfl,trivial⟩ ?_;simp(disch:=omega)only[↓Xd,wG,seval];refine X0 c2 (X2 _) ?_;simp(disch:=omega)only[C9,↓Xd,wG,seval];refine⟨fun h=>?_,fun h=>?_⟩
 ·refine X0 c3 (X2 _) ?_
  simp(disch:=omega)only[h,Zj,↓Xd,wG,seval];refine⟨fun h2=>?_,fun h2=>?_⟩
  ·refine X0 c4 (X2 _) ?_
   simp(disch:=omega)only[h,h2,C9,↓Xd,wG,seval];exact Xo (v:=.bool (decide (0<b.strength))) rfl rfl (X5 _) (by simp[Ag,h,h2])
  ·exact Xo (v:=.bool false) rfl rfl (X5 _) (by simp[Ag,h,h2])
 ·exact Xo (v:=.bool false) rfl rfl (X5 _) (by simp[Ag,h])
theorem LG (g:GG)(hg:vO g):Fn Tryz.prog 63 [gA g] (.bool (Zo g)):=by
 obtain⟨h1,h2,h3,h4,h5⟩:=hg;have:=J8 g.p;have:=J4 g.p;have:=J8 g.q;have:=J4 g.q;have:=J8 g.n;have:=J4 g.n;have c1:=Gj [g.p.x,g.p.y,g.q.x,g.q.y,g.n.x,g.n.y] (by simp) (by simp only[List.mem_cons,List.not_mem_nil,or_false];rintro r (rfl |rfl |rfl |rfl |rfl |rfl) <;> omega);have c2:=LH g.force g.rough h4 h5;have c3:=LJ g.n h3;have c4:=Qe (QA g.n);refine Fn.intro (fn:=Tryz.f63) Tryz.call63 Tryz.func63 rfl mixed 2 [] [] [] (by kernel_rfl) (Nat.le_of_ble_eq_true rfl) (fun a ha=>List.mem_singleton.1 ha▸Jh g) (Xk ?_);simp(disch:=omega)only[AS.start,gA,QK,Xl,↓Xd,wG,seval];refine X0 c1 ⟨F9 [g.p.x,g.p.y,g.q.x,g.q.y,g.n.x,g.n.y] _ _ _ rfl rfl rfl,trivial⟩ ?_;simp(disch:=omega)only[↓Xd,wG,seval];refine X0 c2 (X2 _) ?_;simp(disch:=omega)only[↓Xd,wG,seval];refine⟨fun h=>?_,fun h=>?_⟩
 ·refine X0 c3 (X2 _) ?_
  simp(disch:=omega)only[h,qA,qC,↓Xd,wG,seval];refine X0 c4 (X2 _) ?_;simp(disch:=omega)only[h,C9,↓Xd,wG,seval];exact Xo (v:=.bool (decide (0<QA g.n))) rfl rfl (X5 _) (by simp[Zo,h])
 ·exact Xo (v:=.bool false) rfl rfl (X5 _) (by simp[Zo,h])
def bS (b:BB):Prop:=vb b.c≤1400∧qb b.light≤40∧qb b.heavy≤40∧qb b.strength≤40
def gS (g:GG):Prop:=vb g.p≤1400∧vb g.q≤1400∧vb g.n≤40∧qb g.force≤40∧qb g.rough≤40
theorem bS.ok {b:BB}(h:bS b):vW b:=by obtain⟨h1,h2,h3,h4⟩:=h;unfold vW rm;omega
theorem gS.ok {g:GG}(h:gS g):vO g:=by obtain⟨h1,h2,h3,h4,h5⟩:=h;unfold vO rm;omega
theorem oA (n:V2):qb (QA n)≤2*vb n+1:=by
 have:=J8 n;have:=J4 n;have h:=ZA (Cu n.x) (Cu n.y);rw[Hy,Hy]at h;unfold QA;omega
theorem vg:qb (-1)≤5700:=by rw[Dq];decide +kernel
theorem Gz {b:BB}{g:GG}(hb:bS b)(hg:gS g):∀x∈Ja b g,(∀r∈x.a,qb r≤5700)∧qb x.b≤5700:=by
 obtain⟨b1,b2,b3,b4⟩:=hb;obtain⟨g1,g2,g3,g4,g5⟩:=hg;have t1:=QO g.p b.c;have t2:=QO g.q b.c;have t3:=BI g.n;have c1:=JT (g.p.sub b.c) g.n;have c2:=JT (g.p.sub b.c) g.n.turned;have c3:=JT (g.q.sub b.c) g.n;have c4:=JT (g.q.sub b.c) g.n.turned;have l1:=oA g.n;have e0:qb 0≤5700:=by decide +kernel
 have e1:qb 1≤5700:=by decide +kernel
 have e16:qb 16≤5700:=by decide +kernel
 have en:=vg;have nx:=J8 g.n;have ny:=J4 g.n;have d1:qb g.n.x≤5700:=by omega
 have d2:qb g.n.y≤5700:=by omega
 have d3:qb g.rough≤5700:=by omega
 have d4:qb g.force≤5700:=by omega
 have d5:qb b.heavy≤5700:=by omega
 have d6:qb b.strength≤5700:=by omega
 have d7:qb (QA g.n)≤5700:=by omega
 have d8:qb (Xp (g.p.sub b.c) g.n)≤5700:=by omega
 have d9:qb (Xp (g.p.sub b.c) g.n.turned)≤5700:=by omega
 have d10:qb (Xp (g.q.sub b.c) g.n)≤5700:=by omega
 have d11:qb (Xp (g.q.sub b.c) g.n.turned)≤5700:=by omega
 simp only[Ja,RZ,DR,G3,N1,List.flatMap_cons,List.flatMap_nil,List.map_cons,List.map_nil,List.cons_append,List.nil_append,List.append_nil,List.forall_mem_cons,List.mem_cons,List.not_mem_nil,or_false,forall_eq_or_imp,forall_eq,Dq];simp[e0,e1,e16,en,d1,d2,d3,d4,d5,d6,d7,d8,d9,d10,d11]
theorem Wd {b:BB}{g:GG}(hf:0≤g.force)(hs:0≤b.strength):∀x∈Ja b g,0≤x.b:=by
 simp only[Ja,RZ,DR,G3,N1,List.flatMap_cons,List.flatMap_nil,List.map_cons,List.map_nil,List.cons_append,List.nil_append,List.append_nil,List.forall_mem_cons,List.mem_cons,List.not_mem_nil,or_false,forall_eq_or_imp,forall_eq];have h16:(0:Rat)≤16:=by decide +kernel
 have h0:(0:Rat)≤0:=Rat.le_refl;simp[hf,hs,h16,h0]
theorem ID (b:BB)(g:GG):∀x∈Ja b g,x.a.length=5:=by
 simp only[Ja,RZ,DR,G3,N1,List.flatMap_cons,List.flatMap_nil,List.map_cons,List.map_nil,List.cons_append,List.nil_append,List.append_nil,List.forall_mem_cons,List.mem_cons,List.not_mem_nil,or_false,forall_eq_or_imp,forall_eq];simp
theorem EE {b:BB}:Ag b=true↔0<b.light∧b.light≤b.heavy∧0<b.strength:=by unfold Ag;simp
theorem BG {g:GG}:Zo g=true↔(0<g.force∧0≤g.rough∧g.rough≤4)∧0<QA g.n:=by unfold Zo Ba;simp
theorem tk {b:BB}{g:GG}(hb:bS b)(hg:gS g)(h1:Ag b=true)(h2:Zo g=true) :
  ∃x y val,Fn Tryz.prog 51 [I7 5 (Ja b g) goal5] (.tup [FW 0 x y val,I 0])∧x.length=5∧y.length=17∧(∀i,qb (x.getD i 0)≤1356773)∧(∀i,qb (y.getD i 0)≤1373878)∧IsOpt 5 17 (lA (Ja b g)) (lB (Ja b g)) (lG goal5) (fun k=>x.getD k 0) (fun i=>y.getD i 0) val:=by
 obtain⟨q1,q2,q3⟩:=EE.1 h1;obtain⟨⟨q4,q5,q6⟩,q7⟩:=BG.1 h2;have k1:=Gz hb hg;have k2:=Wd (b:=b) (g:=g) (Rat.le_of_lt q4) (Rat.le_of_lt q3);have e0:qb 0≤5700:=by decide +kernel
 have e1:qb 1≤5700:=by decide +kernel
 refine SJ 5 (Ja b g) goal5 5700 678386 (by omega) (by rw[AD];omega) rfl (ID b g) (fun i hi=>k2 _ (Qp K9 hi)) 9 (by rw[AD];omega) (fun k hk=>?_) (fun i k=>?_) (fun i=>?_) (fun k=>?_) e0 e1 (by rw[AD];omega) (by omega) (by rw[AD];omega) (by omega) (by omega) 4 (fun k hk=>by match k,hk with |0,_=>rfl |1,_=>rfl |2,_=>rfl |3,_=>rfl |4,h=>exact absurd rfl h |k+5,_=>rfl)
 ·match k,hk with
  |0,_=>rfl
  |1,_=>rfl
  |2,_=>rfl
  |3,_=>rfl
  |4,_=>rfl
  |k+5,h=>omega
 ·unfold lA
  by_cases hi:i<(Ja b g).length
  ·by_cases hk:k<((Ja b g).getD i K9).a.length
   ·exact(k1 _ (Qp K9 hi)).1 _ (Qp 0 hk)
   ·rw[List.getD_eq_getElem?_getD (i:=k),List.getElem?_eq_none (by omega)];exact e0
  ·rw[List.getD_eq_getElem?_getD (i:=i),List.getElem?_eq_none (by omega)];exact e0
 ·unfold lB
  by_cases hi:i<(Ja b g).length
  ·exact(k1 _ (Qp K9 hi)).2
  ·rw[List.getD_eq_getElem?_getD (i:=i),List.getElem?_eq_none (by omega)];exact e0
 ·unfold lG goal5
  match k with
  |0=>exact e0
  |1=>exact e0
  |2=>exact e0
  |3=>exact e0
  |4=>exact e1
  |k+5=>exact e0
def Dn (p:Rat×Rat):List AV:=qC p.1 ++ qC p.2
def Wf (l:List (Rat×Rat)):AV:=jX Dn 8 (0,0) l
theorem ZU (l:List (Rat×Rat)):Wf l=.sl l.length (l.length*8) (XD Dn 8 (0,0) l) false:=nrfl rfl
theorem SD (x:Rat×Rat):∀a∈Dn x,Settled a:=by simp[Dn,qC,Xc,X5]
theorem Ie (l:List (Rat×Rat)):Settled (Wf l):=Z5 fun a x hx=>SD a x hx
theorem Dw {P:Program}{fn:Func}{str hcs:List Nat}{a b c x y z:AV}{s:AS}{r1 r2 r3:ResultVar}(hr:fn.results=#[r1,r2,r3])(h1:Zq P s r1=some x)(h2:Zq P s r2=some y)(h3:Zq P s r3=some z)(g1:Zs s.h x a)(g2:Zs s.h y b)(g3:Zs s.h z c) :
  RetOk (Ju P fn str hcs (.tup [a,b,c])) s :=
 ⟨.tup [x,y,z],by simp[ZN,OU,EK,hr,Jj,Bb,h1,h2,h3],CX ⟨g1,g2,g3,trivial⟩⟩
theorem Ho {α:Type}(e:α→List AV)(s:Nat)(d:α)(he:∀x,(e x).length=s) (l:List α):∀j,j<l.length*s→Xf (l.flatMap e) j=XD e s d l j:=by
 induction l with
 |nil=>intro j hj;simp at hj
 |cons x l ih =>
  intro j hj;show(e x ++ l.flatMap e).getD j .any=_;unfold XD;have hs:0<s:=Nat.pos_of_ne_zero fun h=>by rw[h]at hj;omega
  by_cases h:j<s
  ·rw[List.getD_eq_getElem?_getD,List.getElem?_append_left (by rw[he];exact h),←List.getD_eq_getElem?_getD,Nat.div_eq_of_lt h,Nat.mod_eq_of_lt h];rfl
  ·rw[List.getD_eq_getElem?_getD,List.getElem?_append_right (by rw[he];omega),he,←List.getD_eq_getElem?_getD]
   have hj2:j-s<l.length*s:=by rw[List.length_cons,Nat.succ_mul]at hj;omega
   have:=ih (j-s) hj2;rw[show(l.flatMap e).getD (j-s) .any=Xf (l.flatMap e) (j-s)from rfl,this];unfold XD;have e1:j/s=(j-s)/s+1:=by rw[Nat.div_eq_sub_div hs (by omega)]
   have e2:j%s=(j-s)%s:=by rw[Nat.mod_eq_sub_mod (by omega)]
   rw[e1,e2];rfl
theorem JD {α:Type}(e:α→List AV)(s:Nat)(d:α)(he:∀x,(e x).length=s) (l:List α) (n m:Nat) (L:List AV) (t:Bool) (hL:L=l.flatMap e) (hn:n=l.length) (hm:m=l.length*s):Weak (.sl n m (Xf L) t) (jX e s d l):=by
 subst hn hm hL;exact JK rfl (Nat.le_refl _) fun j hj=>by rw[Ho e s d he l j hj];exact Weak.rfl' _
theorem jJ (f:Nat→Rat):Xn f 0=AV.bool (sg (f 0))∧Xn f 1=X8 (X9 (f 0).num.natAbs)∧Xn f 2=AV.bool false∧Xn f 3=X8 (X9 (qd (f 0)))∧Xn f 4=AV.bool (sg (f 1))∧Xn f 5=X8 (X9 (f 1).num.natAbs)∧Xn f 6=AV.bool false∧Xn f 7=X8 (X9 (qd (f 1)))∧Xn f 8=AV.bool (sg (f 2))∧Xn f 9=X8 (X9 (f 2).num.natAbs)∧Xn f 10=AV.bool false∧Xn f 11=X8 (X9 (qd (f 2)))∧Xn f 12=AV.bool (sg (f 3))∧Xn f 13=X8 (X9 (f 3).num.natAbs)∧Xn f 14=AV.bool false∧Xn f 15=X8 (X9 (qd (f 3))):=by
 refine⟨rfl,rfl,rfl,rfl,rfl,rfl,rfl,rfl,rfl,rfl,rfl,rfl,rfl,rfl,rfl,rfl⟩
theorem Ue (b:BB)(g:GG)(hb:bS b)(hg:gS g)(h1:Ag b=true)(h2:Zo g=true) :
  ∃x0 x1 x2 x3 m,Fn Tryz.prog 22 [bA b,gA g] (.tup [qA m,Wf [(x0,x1),(x2,x3)],I 0])∧iA b g m∧okP b g x0 x1 x2 x3 m∧qb x0≤1356773∧qb x1≤1356773∧qb x2≤1356773∧qb x3≤1356773∧qb m≤1356773:=by
 obtain⟨x,y,m,c4,hx,hy,hbx,hby,hO⟩:=tk hb hg h1 h2;obtain⟨i1,i2,i3⟩:=oh hO;refine⟨x.getD 0 0,x.getD 1 0,x.getD 2 0,x.getD 3 0,m,?_,i1,i2,hbx 0,hbx 1,hbx 2,hbx 3,i3▸hbx 4⟩;have c1:=LF b hb.ok;have c2:=LG g hg.ok;have c3:=M7 b g hb.1 hg.1 hg.2.1 (by have:=hg.2.2.1;omega);rw[h1]at c1;rw[h2]at c2;obtain⟨R1,hR1⟩:∃R,R=qA m:=⟨_,rfl⟩
 have sR1:Settled R1:=hR1▸Xa _;obtain⟨R2,hR2⟩:∃R,R=Wf [(x.getD 0 0,x.getD 1 0),(x.getD 2 0,x.getD 3 0)]:=⟨_,rfl⟩
 have sR2:Settled R2:=hR2▸Ie _;rw[←hR1,←hR2];refine Fn.intro (fn:=Tryz.f22) Tryz.call22 Tryz.func22 rfl mixed 9 [] [6,7020] [] (by kernel_rfl) (Nat.le_of_ble_eq_true rfl) (JY (Z3 b) (Jh g)) (XG 60 ?_);simp(disch:=omega)only[AS.start,bA,gA,QW,QK,Xl,↓Xd,wG,seval];refine X0 c1 (X2 _) ?_;simp(disch:=omega)only[↓Xd,wG,seval];refine X0 c2 (X2 _) ?_;simp(disch:=omega)only[↓Xd,wG,seval];refine X0 c3 (X2 _) ?_;simp(disch:=omega)only[I7,↓Xd,wG,seval];refine X0 c4 (X2 _) ?_;simp(disch:=omega)only[FW,BM,qA,qC,↓Xd,wG,seval];refine⟨rfl,?_⟩;refine Run.sub ?_ (XC 3 rfl);refine Run.sub ?_ (Xy 7 rfl rfl (by omega));refine Xk ?_;have rx:=jJ fun i=>x.getD i 0
 simp(disch:=omega)only[AS.put,List.set,FW,BM,qA,qC,Xr,hx,hy,rx,↓Xd,wG,seval];exact Dw (r1:=.cell 4 28) (r2:=.tmp 5) (r3:=.tmp 6) rfl (Xs XR rfl rfl rfl) rfl rfl (Q1 sR1 (by rw[hR1];rfl)) (XF sR2 (by rw[hR2];exact JD Dn 8 (0,0) (fun _=>rfl) [(x.getD 0 0,x.getD 1 0),(x.getD 2 0,x.getD 3 0)] _ _ _ _ rfl rfl rfl)) (Q1 (Xb 0) rfl)
def OS (x a:List Rat):Rat:=XB (fun k=>a.getD k 0*x.getD k 0) 5
def Vw (a:AV):AV:=.ptr 1 (Xf [a]) 0
theorem Ft {a:AV}(h:Settled a):Settled (Vw a):=XI fun j _=>Xe (l:=[a]) (fun x hx=>List.mem_singleton.1 hx▸h) j
theorem oz {x a:List Rat}(h1:∀ r∈x,qb r≤1500000)(h2:∀r∈a,qb r≤5700):qb (OS x a)≤7600000:=by
 have e0:qb 0≤5700:=by decide +kernel
 have g:∀ {l:List Rat} {c:Nat},5700≤c→(∀r∈l,qb r≤c)→∀k,qb (l.getD k 0)≤c:=fun {l} c hc h k=>by
  by_cases hk:k<l.length
  ·exact h _ (Qp 0 hk)
  ·rw[List.getD_eq_getElem?_getD,List.getElem?_eq_none (by omega)];exact Nat.le_trans e0 hc
 have:=GB (f:=fun k=>a.getD k 0*x.getD k 0) (E:=1505700) (m:=5) fun i hi=>by
  have:=Qk (a.getD i 0) (x.getD i 0);have:=g (by omega) h1 i;have:=g (Nat.le_refl _) h2 i;omega
 unfold OS;omega
theorem Ud (x:List Rat)(l:Ln)(hx:x.length=5)(hl:l.a.length=5)(h1:∀ r∈x,qb r≤1500000)(h2:∀ r∈l.a,qb r≤5700)(h3:qb l.b≤5700) :
  Fn Tryz.prog 99 [Ti l,Vw (Qb x)] (.bool (decide (l.b<OS x l.a))):=by
 have c1:=Lu l.a x 1505700 (by omega) (by omega) (fun i hi=>by have:=h2 _ (Qp 0 hi);have:=h1 _ (Qp 0 (show i<x.length by omega));omega) (by omega);rw[hl,show XB (fun i=>l.a.getD i 0*x.getD i 0) 5=OS x l.a from rfl]at c1;have q:=oz h1 h2;have c2:=QR (OS x l.a) l.b (by unfold rm;omega) (by unfold rm;omega);refine Fn.intro (fn:=Tryz.f99) Tryz.call99 Tryz.func99 rfl mixed 4 [] [] [] (by kernel_rfl) (Nat.le_of_ble_eq_true rfl) (JY (Bf l) (Ft (Xz x))) (Xk ?_);simp(disch:=omega)only[AS.start,Ti,Ka,Vw,qC,Xr,↓Xd,wG,seval];refine X0 c1 (X2 _) ?_;simp(disch:=omega)only[↓Xd,wG,seval];refine X0 c2 (X2 _) ?_;simp(disch:=omega)only[↓Xd,wG,seval];exact Xo rfl rfl (X5 _) (congrArg AV.bool (decide_eq_decide.2 (AZ _ _)))
def M8 (l:List (Rat×Rat)) (k:Rat):List Rat:=[(l.getD 0 (0,0)).1,(l.getD 0 (0,0)).2,(l.getD 1 (0,0)).1,(l.getD 1 (0,0)).2,k]
def VS (b:BB)(g:GG)(k:Rat)(l:List (Rat×Rat)):Prop:=okP b g (l.getD 0 (0,0)).1 (l.getD 0 (0,0)).2 (l.getD 1 (0,0)).1 (l.getD 1 (0,0)).2 k
theorem ip (b:BB)(g:GG)(k:Rat)(l:List (Rat×Rat)):((Ja b g).any fun x=>decide (x.b<OS (M8 l k) x.a))=false↔VS b g k l:=by
 have h:=Gg b g fun i=>(M8 l k).getD i 0
 rw[List.any_eq_false];have e:(∀x∈Ja b g,¬decide (x.b<OS (M8 l k) x.a)=true)↔(∀i,i<17→XB (fun k'=>lA (Ja b g) i k'*(M8 l k).getD k' 0) 5≤lB (Ja b g) i):=by
  constructor
  ·intro h1 i hi
   have:=h1 _ (Qp K9 (show i<(Ja b g).length by rw[AD];exact hi));rw[decide_eq_true_eq,Rat.not_lt]at this;exact this
  ·intro h1 x hx
   obtain⟨i,hi,rfl⟩:=List.getElem_of_mem hx;have:=h1 i (by rw[AD]at hi;exact hi);rw[decide_eq_true_eq,Rat.not_lt];unfold lA lB at this;rw[List.getD_eq_getElem?_getD,List.getElem?_eq_getElem hi]at this;exact this
 rw[e,h];rfl
def Zg (b:BB)(g:GG)(k:Rat)(l:List (Rat×Rat)):Int:=if(Ag b && Zo g)=true then(if l.length=2∧VS b g k l then 0 else 22)else 1
theorem Hp (b:BB)(g:GG)(k:Rat)(l:List (Rat×Rat)) (hb:bS b) (hg:gS g) (hk:qb k≤1500000) (hl:l.length<1000000) (hp:∀x∈l,qb x.1≤1500000∧qb x.2≤1500000):Fn Tryz.prog 29 [bA b,gA g,qA k,Wf l] (I (Zg b g k l)):=by
 have c1:=LF b hb.ok;have c2:=LG g hg.ok;have c3:=M7 b g hb.1 hg.1 hg.2.1 (by have:=hg.2.2.1;omega);have hS:∀a∈[bA b,gA g,qA k,Wf l],Settled a:=by simp[Z3,Jh,Xa,Ie]
 by_cases hl2:l.length=2
 ·obtain⟨p,q,rfl⟩:∃p q,l=[p,q]:=by
   match l,hl2 with
   | [p,q],_=>exact⟨p,q,rfl⟩
  have hP:Wf [p,q]=.sl 2 16 (XD Dn 8 (0,0) [p,q]) false:=rfl;have hF:XD Dn 8 (0,0) [p,q] 0=AV.bool (sg p.1)∧XD Dn 8 (0,0) [p,q] 1=X8 (X9 (p.1).num.natAbs)∧XD Dn 8 (0,0) [p,q] 2=AV.bool false∧XD Dn 8 (0,0) [p,q] 3=X8 (X9 (qd p.1))∧XD Dn 8 (0,0) [p,q] 4=AV.bool (sg p.2)∧XD Dn 8 (0,0) [p,q] 5=X8 (X9 (p.2).num.natAbs)∧XD Dn 8 (0,0) [p,q] 6=AV.bool false∧XD Dn 8 (0,0) [p,q] 7=X8 (X9 (qd p.2))∧XD Dn 8 (0,0) [p,q] 8=AV.bool (sg q.1)∧XD Dn 8 (0,0) [p,q] 9=X8 (X9 (q.1).num.natAbs)∧XD Dn 8 (0,0) [p,q] 10=AV.bool false∧XD Dn 8 (0,0) [p,q] 11=X8 (X9 (qd q.1))∧XD Dn 8 (0,0) [p,q] 12=AV.bool (sg q.2)∧XD Dn 8 (0,0) [p,q] 13=X8 (X9 (q.2).num.natAbs)∧XD Dn 8 (0,0) [p,q] 14=AV.bool false∧XD Dn 8 (0,0) [p,q] 15=X8 (X9 (qd q.2)):=⟨rfl,rfl,rfl,rfl,rfl,rfl,rfl,rfl,rfl,rfl,rfl,rfl,rfl,rfl,rfl,rfl⟩
  obtain⟨p1,p2⟩:=hp p (by simp);obtain⟨p3,p4⟩:=hp q (by simp);have c4:=Gj [k,p.1,p.2,q.1,q.2] (by simp) (by unfold rm;simp only[List.mem_cons,List.not_mem_nil,or_false];rintro r (rfl |rfl |rfl |rfl |rfl) <;> omega);refine Fn.intro (fn:=Tryz.f29) Tryz.call29 Tryz.func29 rfl mixed 11 [] [] [] (by kernel_rfl) (Nat.le_of_ble_eq_true rfl) hS (XG 132 ?_);simp(disch:=omega)only[AS.start,bA,gA,QW,QK,Xl,qA,qC,↓Xd,wG,seval];refine X0 c1 (X2 _) ?_;simp(disch:=omega)only[↓Xd,wG,seval];refine⟨fun h1=>?_,fun h1=>?_⟩
  ·exact Xo (v:=I 1) rfl rfl (Xb _) (by simp at h1;simp[Zg,h1])
  have h1:Ag b=true:=by cases e:Ag b <;> simp_all
  refine X0 c2 (X2 _) ?_;simp(disch:=omega)only[hP,hF,↓Xd,wG,seval];refine⟨fun h2=>?_,fun h2=>?_⟩
  ·exact Xo (v:=I 1) rfl rfl (Xb _) (by simp at h2;simp[Zg,h1,h2])
  have h2:Zo g=true:=by cases e:Zo g <;> simp_all
  refine X0 c4 ⟨F9 [k,p.1,p.2,q.1,q.2] _ _ _ rfl rfl rfl,trivial⟩ ?_;simp(disch:=omega)only[hP,hF,↓Xd,wG,seval];obtain⟨X,hX⟩:∃X,X=M8 [p,q] k:=⟨_,rfl⟩
  have hX5:X.length=5:=by rw[hX];rfl
  have hXq:∀r∈X,qb r≤1500000:=by
   rw[hX];simp only[M8,List.mem_cons,List.not_mem_nil,or_false];rintro r (rfl |rfl |rfl |rfl |rfl)
   ·exact p1
   ·exact p2
   ·exact p3
   ·exact p4
   ·exact hk
  have c5:=Dc (Ja b g) 99 [Vw (Qb X)] (fun x=>decide (x.b<OS X x.a)) (by rw[AD];omega) (fun a ha=>List.mem_singleton.1 ha▸Ft (Xz X)) fun x hx=>Ud X x hX5 (ID b g x hx) hXq (Gz hb hg x hx).1 (Gz hb hg x hx).2
  refine Run.sub ?_ (Qo 3 (Xf [Qb X]) rfl (fun j hj=>by
   match j,hj with
   |0,_=>exact Q3 (by rw[hX];have:=JD qC 4 0 (fun _=>rfl) (M8 [p,q] k) 5 20 (qC p.1 ++ qC p.2 ++ qC q.1 ++ qC q.2 ++ qC k) false rfl rfl rfl;exact this)
   |j+1,h=>omega))
  refine Run.sub ?_ (XC 3 rfl);refine Run.sub ?_ (Xy 9 rfl rfl (by omega));refine Xk ?_;simp(disch:=omega)only[AS.put,List.set,↓Xd,wG,seval];refine X0 c3 (X2 _) ?_;simp(disch:=omega)only[I7,↓Xd,wG,seval];refine X0 c5 (X2 _) ?_;simp(disch:=omega)only[↓Xd,wG,seval];have hh:=ip b g k [p,q];rw[←hX]at hh;refine⟨fun h3=>?_,fun h3=>?_⟩
  ·have n:¬VS b g k [p,q]:=fun hB=>by have e:=hh.2 hB;rw[e]at h3;exact absurd h3 (by simp)
   exact Xo (v:=I 22) rfl rfl (Xb _) (by simp[Zg,h1,h2,n])
  ·have y:VS b g k [p,q]:=hh.1 (by revert h3;cases(Ja b g).any (fun x=>decide (x.b<OS X x.a)) <;> simp)
   exact Xo (v:=I 0) rfl rfl (Xb _) (by simp[Zg,h1,h2,y])
 ·refine Fn.intro (fn:=Tryz.f29) Tryz.call29 Tryz.func29 rfl mixed 11 [] [] [] (by kernel_rfl) (Nat.le_of_ble_eq_true rfl) hS (Xk ?_)
  have hl3:¬ (l.length:Int)=2:=by omega
  simp(disch:=omega)only[AS.start,bA,gA,QW,QK,Xl,qA,qC,↓Xd,wG,seval];refine X0 c1 (X2 _) ?_;simp(disch:=omega)only[↓Xd,wG,seval];refine⟨fun h1=>?_,fun h1=>?_⟩
  ·exact Xo (v:=I 1) rfl rfl (Xb _) (by simp at h1;simp[Zg,h1])
  have h1:Ag b=true:=by cases e:Ag b <;> simp_all
  refine X0 c2 (X2 _) ?_;simp(disch:=omega)only[ZU,hl3,↓Xd,wG,seval];refine⟨fun h2=>?_,fun h2=>?_⟩
  ·exact Xo (v:=I 1) rfl rfl (Xb _) (by simp at h2;simp[Zg,h1,h2])
  have h2:Zo g=true:=by cases e:Zo g <;> simp_all
  exact Xo (v:=I 22) rfl rfl (Xb _) (by simp[Zg,h1,h2,hl2])
theorem jI (f r:Rat)(h1:qb f≤rm)(h2:qb r≤rm):Fn Tryz.prog 88 [qA f,qA r] (.bool (Ba f r)):=by
 have v1:=Mj f h1;have v2:=Mj r h2;have c2:=JU f h1;have c3:=JU r h2;have c4:=XP 4 1 ⟨by omega,by omega⟩ ⟨by omega,by omega⟩;rw[show Rat.divInt 4 1=4 by decide +kernel]at c4;have c5:=Z1 r 4 h2 (by decide +kernel);refine Fn.intro (fn:=Tryz.f88) Tryz.call88 Tryz.func88 rfl mixed 4 [] [] [] (by kernel_rfl) (Nat.le_of_ble_eq_true rfl) (JY (Xa f) (Xa r)) (Xk ?_);simp(disch:=omega)only[AS.start,qA,qC,↓Xd,wG,seval];refine X0 v1 (X2 _) ?_;simp(disch:=omega)only[↓Xd,wG,seval];refine X0 v2 (X2 _) ?_;simp(disch:=omega)only[↓Xd,wG,seval];refine X0 c2 (X2 _) ?_;simp(disch:=omega)only[C9,Cq,↓Xd,wG,seval];refine⟨fun h=>?_,fun h=>?_⟩
 ·refine X0 c3 (X2 _) ?_
  simp(disch:=omega)only[h,C9,Cq,↓Xd,wG,seval];refine⟨fun h2=>?_,fun h2=>?_⟩
  ·refine X1 c4 rfl ?_
   simp(disch:=omega)only[h,h2,qA,qC,↓Xd,wG,seval];refine X0 c5 (X2 _) ?_;simp(disch:=omega)only[h,h2,↓Xd,wG,seval];exact Xo (v:=.bool (decide (Bs r 4≤0))) rfl rfl (X5 _) (congrArg AV.bool (by unfold Ba;exact decide_eq_decide.2 (by rw[Zj];simp[h,h2])))
  ·exact Xo (v:=.bool false) rfl rfl (X5 _) (by simp[Ba,h,h2])
 ·exact Xo (v:=.bool false) rfl rfl (X5 _) (by simp[Ba,h])
theorem vH:vb v0≤1400:=by decide +kernel
theorem DK (t:Bool):Weak (.agg [.bool false,.sl 0 0 (fun _=>.any) t,.bool false,.sl 0 0 (fun _=>.any) t,.bool false,.sl 0 0 (fun _=>.any) t,.bool false,.sl 0 0 (fun _=>.any) t]) (vA v0):=by
 have w:=Kd t;exact ZR ⟨w.1,w.2.1,w.2.2.1,w.2.2.2.1,w.1,w.2.1,w.2.2.1,w.2.2.2.1,trivial⟩
theorem Rz (n:V2):(0<QA n)=(n≠v0):=propext (by
 have h0:∀x:Rat,0≤Cu x∧(Cu x=0↔x=0):=fun x=>by unfold Cu;split <;> constructor <;> grind
 obtain⟨a1,a2⟩:=h0 n.x;obtain⟨b1,b2⟩:=h0 n.y;constructor
 ·rintro h rfl
  have e1:=a2.2 rfl;have e2:=b2.2 rfl;unfold QA at h;rw[e1,e2]at h;grind
 ·intro h
  refine Rat.not_le.1 fun h2=>h ?_
  unfold QA at h2;have e1:Cu n.x=0:=by grind
  have e2:Cu n.y=0:=by grind
  have x0:=a2.1 e1;have y0:=b2.1 e2;cases n;simp only at x0 y0;subst x0 y0;rfl)
theorem EA (a:V2)(k:Rat):vb (a.scale k)≤vb a+qb k:=by
 have h1:=Qk a.x k;have h2:=Qk a.y k;have:=J8 a;have:=J4 a;show max (qb (a.scale k).x) (qb (a.scale k).y)≤_;have e1:qb (a.scale k).x≤vb a+qb k:=Nat.le_trans h1 (by omega);have e2:qb (a.scale k).y≤vb a+qb k:=Nat.le_trans h2 (by omega);omega
def pI (x y:Int):V2:=⟨x,y⟩
def sqV:List V2:=[v0,pI 2 0,pI 2 2,pI 0 2]
def ED (n:Int):BB:=⟨pI 1 1,Rat.divInt 1 1,Rat.divInt 2 1,Rat.divInt n 1⟩
theorem F8:∀ {L M:List AV},WeakL L M→∀j,Weak (Xf L j) (Xf M j)
 | [],[],_,j=>Weak.rfl' _
 |a :: L,b :: M,h,0=>h.1
 |a :: L,b :: M,h,j+1=>F8 (L:=L) (M:=M) h.2 j
theorem Up:Fn Tryz.prog 75 [] (Ql sqV):=by
 have c1:=Kh 2 0 ⟨by omega,by omega⟩ ⟨by omega,by omega⟩;have c2:=Kh 2 2 ⟨by omega,by omega⟩ ⟨by omega,by omega⟩;have c3:=Kh 0 2 ⟨by omega,by omega⟩ ⟨by omega,by omega⟩;rw[show(⟨((2:Int):Rat),((0:Int):Rat)⟩:V2)=pI 2 0 from rfl]at c1;rw[show(⟨((2:Int):Rat),((2:Int):Rat)⟩:V2)=pI 2 2 from rfl]at c2;rw[show(⟨((0:Int):Rat),((2:Int):Rat)⟩:V2)=pI 0 2 from rfl]at c3;obtain⟨R,hR⟩:∃R,R=Ql sqV:=⟨_,rfl⟩
 have sR:Settled R:=hR▸Xq _;rw[←hR];refine Fn.intro (fn:=Tryz.f75) Tryz.call75 Tryz.func75 rfl mixed 1 [] [] [] (by kernel_rfl) (Nat.le_of_ble_eq_true rfl) (by simp) (Xk ?_);simp(disch:=omega)only[AS.start,↓Xd,wG,seval];refine X1 c1 rfl ?_;simp(disch:=omega)only[vA,vC,↓Xd,wG,seval];refine X1 c2 rfl ?_;simp(disch:=omega)only[vA,vC,↓Xd,wG,seval];refine X1 c3 rfl ?_;simp(disch:=omega)only[vA,vC,↓Xd,wG,seval];refine C4 rfl (XF sR ?_);rw[hR];have w:=Kd false;have hL:WeakL ([.bool false,.sl 0 0 (fun _=>.any) false,.bool false,.sl 0 0 (fun _=>.any) false,.bool false,.sl 0 0 (fun _=>.any) false,.bool false,.sl 0 0 (fun _=>.any) false] ++ (vC (pI 2 0) ++ vC (pI 2 2) ++ vC (pI 0 2))) (sqV.flatMap vC) :=
  ⟨w.1,w.2.1,w.2.2.1,w.2.2.2.1,w.1,w.2.1,w.2.2.1,w.2.2.2.1,X2 _⟩
 exact JK rfl (Nat.le_refl _) fun j hj=>by
  rw[←Ho vC 8 v0 (fun _=>rfl) sqV j hj];exact F8 hL j
theorem NC (n:Int)(hn:BS n):Fn Tryz.prog 76 [I n] (bA (ED n)):=by
 have c1:=Kh 1 1 ⟨by omega,by omega⟩ ⟨by omega,by omega⟩;rw[show(⟨((1:Int):Rat),((1:Int):Rat)⟩:V2)=pI 1 1 from rfl]at c1;have c2:=XP 1 1 ⟨by omega,by omega⟩ ⟨by omega,by omega⟩;have c3:=XP 2 1 ⟨by omega,by omega⟩ ⟨by omega,by omega⟩;have c4:=XP n 1 hn ⟨by omega,by omega⟩;obtain⟨R,hR⟩:∃R,R=bA (ED n):=⟨_,rfl⟩
 have sR:Settled R:=hR▸Z3 _;rw[←hR];refine Fn.intro (fn:=Tryz.f76) Tryz.call76 Tryz.func76 rfl mixed 3 [] [] [] (by kernel_rfl) (Nat.le_of_ble_eq_true rfl) (fun a ha=>List.mem_singleton.1 ha▸Xb n) (Xk ?_);simp(disch:=omega)only[AS.start,↓Xd,wG,seval];refine X1 c1 rfl ?_;simp(disch:=omega)only[vA,vC,↓Xd,wG,seval];refine X1 c2 rfl ?_;simp(disch:=omega)only[qA,qC,↓Xd,wG,seval];refine X1 c3 rfl ?_;simp(disch:=omega)only[qA,qC,↓Xd,wG,seval];refine X1 c4 rfl ?_;simp(disch:=omega)only[qA,qC,↓Xd,wG,seval];exact Bl rfl VW rfl rfl rfl (XF sR (by rw[hR];exact Weak.rfl' _))
theorem wx {x y:Rat}(h:x*x+y*y=0):x=0∧y=0:=by
 have hx:=AN x;have hy:=AN y;have h1:x*x=0:=by grind
 have h2:y*y=0:=by grind
 exact⟨by rcases Rat.mul_eq_zero.1 h1 with h |h <;> exact h,by rcases Rat.mul_eq_zero.1 h2 with h |h <;> exact h⟩
theorem IJ {x y:Rat}(h:¬ (x=0∧y=0)):0<x*x+y*y:=by
 have hx:=AN x;have hy:=AN y;have:¬x*x+y*y=0:=fun e=>h (wx e)
 grind
theorem Gw (u1 u2 v1 v2 y1 y2:Rat)(h:u1*v2 - u2*v1=0)(hd:0<u1*v1+u2*v2):y1*u2-y2*u1=0∨0<(y1*u2-y2*u1)*(y1*v2-y2*v1):=by
 by_cases hc:y1*u2-y2*u1=0
 ·exact .inl hc
 ·right
  have e:(y1*u2-y2*u1)*(y1*v2-y2*v1)*(u1*v1+u2*v2)=(y1*u2-y2*u1)*(y1*u2-y2*u1)*(v1*v1+v2*v2)+(y1*u2-y2*u1)*(u1*v2-u2*v1)*(y1*v1+y2*v2):=by grind
  rw[h]at e;have hv:0<v1*v1+v2*v2:=IJ fun⟨a,b⟩=>by rw[a,b]at hd;grind
  have hcc:0<(y1*u2-y2*u1)*(y1*u2-y2*u1):=by
   have:=AN (y1*u2-y2*u1);have h2:¬ (y1*u2-y2*u1)*(y1*u2-y2*u1)=0:=fun e=>by rcases Rat.mul_eq_zero.1 e with h |h <;> exact hc h
   grind
  have hp:=Rat.mul_pos hcc hv;refine Rat.not_le.1 fun hn=>?_
  have:=Rat.mul_nonneg (show 0≤-((y1*u2-y2*u1)*(y1*v2-y2*v1))by grind) (Rat.le_of_lt hd);grind
theorem CS {p q:Rat}(h:0<p*q):(0<p∧0<q)∨(p<0∧q<0):=by
 rcases Rat.le_total (a:=0) (b:=p)with hp |hp
 ·left
  have hp2:0<p:=by
   refine Rat.not_le.1 fun g=>?_
   have:p=0:=by grind
   rw[this]at h;grind
  refine⟨hp2,Rat.not_le.1 fun g=>?_⟩;have:=Rat.mul_nonneg hp (show 0≤-q by grind);grind
 ·right
  have hp2:p<0:=by
   refine Rat.not_le.1 fun g=>?_
   have:p=0:=by grind
   rw[this]at h;grind
  refine⟨hp2,Rat.not_le.1 fun g=>?_⟩;have:=Rat.mul_nonneg (show 0≤-p by grind) g;grind
theorem jU (x1 x2 m1 m2 k1 k2:Rat)(hx:¬ (x1=0∧x2=0)) (hp:x1*m2-x2*m1=0) (hq:x1*k2-x2*k1=0)
  (h1:0<m1*(m1-x1)+m2*(m2-x2)) (h2:0<k1*(k1-x1)+k2*(k2-x2)) (h3:0<m1*k1+m2*k2) :
  (x1*x1+x2*x2<x1*m1+x2*m2∧x1*x1+x2*x2<x1*k1+x2*k2)∨(x1*m1+x2*m2<0∧x1*k1+x2*k2<0):=by
 have hn:=IJ hx;have e1:(x1*m1+x2*m2)*(x1*m1+x2*m2-(x1*x1+x2*x2))=(x1*x1+x2*x2)*(m1*(m1-x1)+m2*(m2-x2))-(x1*m2-x2*m1)*(x1*m2-x2*m1):=by grind
 have e2:(x1*k1+x2*k2)*(x1*k1+x2*k2-(x1*x1+x2*x2))=(x1*x1+x2*x2)*(k1*(k1-x1)+k2*(k2-x2))-(x1*k2-x2*k1)*(x1*k2-x2*k1):=by grind
 have e3:(x1*m1+x2*m2)*(x1*k1+x2*k2)=(x1*x1+x2*x2)*(m1*k1+m2*k2)-(x1*m2-x2*m1)*(x1*k2-x2*k1):=by grind
 rw[hp]at e1;rw[hq]at e2;rw[hp]at e3;have p1:=Rat.mul_pos hn h1;have p2:=Rat.mul_pos hn h2;have p3:=Rat.mul_pos hn h3;have g1:0<(x1*m1+x2*m2)*(x1*m1+x2*m2-(x1*x1+x2*x2)):=by grind
 have g2:0<(x1*k1+x2*k2)*(x1*k1+x2*k2-(x1*x1+x2*x2)):=by grind
 have g3:0<(x1*m1+x2*m2)*(x1*k1+x2*k2):=by grind
 generalize x1*m1+x2*m2=C at *;generalize x1*k1+x2*k2=D at *;generalize x1*x1+x2*x2=N at *;rcases CS g3 with⟨a,b⟩ | ⟨a,b⟩
 ·left
  rcases CS g1 with⟨_,c⟩ | ⟨c,_⟩
  ·rcases CS g2 with⟨_,d⟩ | ⟨d,_⟩
   ·exact⟨by grind,by grind⟩
   ·grind
  ·grind
 ·exact .inr ⟨a,b⟩
theorem Lp (m1 m2 x1 x2 k1 k2:Rat)(hm:¬ (m1=0∧m2=0)) (h1:x1*m2-x2*m1=0) (h2:m1*k2-m2*k1=0):x1*k2-x2*k1=0:=by
 have hn:=IJ hm;have e:(m1*m1+m2*m2)*(x1*k2-x2*k1)=(x1*m1+x2*m2)*(m1*k2-m2*k1)+(x1*m2-x2*m1)*(m1*k1+m2*k2):=by grind
 rw[h1,h2]at e;have e2:(m1*m1+m2*m2)*(x1*k2-x2*k1)=0:=by grind
 rcases Rat.mul_eq_zero.1 e2 with h |h
 ·grind
 ·exact h
theorem wv (x1 x2 m1 m2 k1 k2:Rat)(hx:¬ (x1=0∧x2=0))
  (P:x1*m2-x2*m1=0→0<m1*(m1-x1)+m2*(m2-x2)) (Q:x1*k2-x2*k1=0→0<k1*(k1-x1)+k2*(k2-x2))
  (R:m1*k2-m2*k1=0→0<m1*k1+m2*k2) (S:(k1-m1)*(x2-m2)-(k2-m2)*(x1-m1)=0→0<(m1-x1)*(k1-x1)+(m2-x2)*(k2-x2))
  (hn:¬ ((x1*m2-x2*m1)*(x1*k2-x2*k1)<0∧(m1*k2-m2*k1)*((k1-m1)*(x2-m2)-(k2-m2)*(x1-m1))<0)) :
  0<(x1*m2-x2*m1)*(x1*k2-x2*k1)∨0<(m1*k2-m2*k1)*((k1-m1)*(x2-m2)-(k2-m2)*(x1-m1)) ∨
  ((x1*x1+x2*x2<x1*m1+x2*m2∧x1*x1+x2*x2<x1*k1+x2*k2)∨(x1*m1+x2*m2<0∧x1*k1+x2*k2<0)):=by
 by_cases hp:x1*m2-x2*m1=0
 ·have h1:=P hp
  have hm:¬ (m1=0∧m2=0):=fun⟨a,b⟩=>by rw[a,b]at h1;grind
  rcases Gw (-m1) (-m2) (x1-m1) (x2-m2) (k1-m1) (k2-m2) (by grind) (by grind)with h |h
  ·have hr:m1*k2-m2*k1=0:=by grind
   have hq:=Lp m1 m2 x1 x2 k1 k2 hm hp hr;exact Or.inr (Or.inr (jU x1 x2 m1 m2 k1 k2 hx hp hq h1 (Q hq) (R hr)))
  ·exact Or.inr (Or.inl (by grind))
 by_cases hq:x1*k2-x2*k1=0
 ·have h1:=Q hq
  have hk:¬ (k1=0∧k2=0):=fun⟨a,b⟩=>by rw[a,b]at h1;grind
  rcases Gw (-k1) (-k2) (x1-k1) (x2-k2) (k1-m1) (k2-m2) (by grind) (by grind)with h |h
  ·have hr:m1*k2-m2*k1=0:=by grind
   exact absurd (Lp k1 k2 x1 x2 m1 m2 hk hq (by grind)) hp
  ·exact Or.inr (Or.inl (by grind))
 by_cases hr:m1*k2-m2*k1=0
 ·rcases Gw m1 m2 k1 k2 x1 x2 hr (R hr)with h |h
  ·exact absurd h hp
  ·exact Or.inl h
 by_cases hs:(k1-m1)*(x2-m2)-(k2-m2)*(x1-m1)=0
 ·rcases Gw (m1-x1) (m2-x2) (k1-x1) (k2-x2) x1 x2 (by grind) (S hs)with h |h
  ·exact absurd (by grind) hp
  ·exact Or.inl (by grind)
 have ne1:¬ (x1*m2-x2*m1)*(x1*k2-x2*k1)=0:=fun e=>by
  rcases Rat.mul_eq_zero.1 e with h |h
  ·exact hp h
  ·exact hq h
 have ne2:¬ (m1*k2-m2*k1)*((k1-m1)*(x2-m2)-(k2-m2)*(x1-m1))=0:=fun e=>by
  rcases Rat.mul_eq_zero.1 e with h |h
  ·exact hr h
  ·exact hs h
 generalize (x1*m2-x2*m1)*(x1*k2-x2*k1)=A at *;generalize (m1*k2-m2*k1)*((k1-m1)*(x2-m2)-(k2-m2)*(x1-m1))=B at *;grind
theorem Wu (p q:Rat)(h:p.num.sign*q.num.sign<0→False):¬p*q<0:=fun hh=>by
 have hh:0<p * -q:=by grind
 rcases CS hh with⟨a,b⟩ | ⟨a,b⟩
 ·have h1:=(DG p).2 a
  have h2:=(GO q).2 (by grind);exact h (Int.mul_neg_of_pos_of_neg h1 h2)
 ·have h1:=(GO p).2 a
  have h2:=(DG q).2 (by grind);exact h (Int.mul_neg_of_neg_of_pos h1 h2)
theorem Gt (a b p:V2)(h:NK a b p=false)(h0:Xp (b.sub a) (p.sub a)=0):0<Q8 (a.sub p) (b.sub p):=by
 unfold NK JX at h;rw[h0]at h;have h2:¬ (Q8 (a.sub p) (b.sub p)).num.sign≤0:=by simpa using h
 exact(DG _).1 (by omega)
theorem Da (n a b c d:V2)(h:((Q8 n a<Q8 n c∧Q8 n a<Q8 n d)∧(Q8 n b<Q8 n c∧Q8 n b<Q8 n d))∨((Q8 n c<Q8 n a∧Q8 n d<Q8 n a)∧(Q8 n c<Q8 n b∧Q8 n d<Q8 n b))):KE n a b c d=true:=by
 unfold KE I1;simp only[Bool.or_eq_true,Bool.and_eq_true,decide_eq_true_eq];rcases h with⟨⟨h1,h2⟩,h3,h4⟩ | ⟨⟨h1,h2⟩,h3,h4⟩
 ·exact .inl ⟨⟨⟨h1,h2⟩,h3⟩,h4⟩
 ·exact .inr ⟨⟨⟨h1,h3⟩,h2⟩,h4⟩
theorem NF (a b c d:V2)(hab:a≠b)(h:Zx a b c d=false):¬Ao a b c d:=by
 unfold Zx at h;simp only[Bool.or_eq_false_iff]at h;obtain⟨⟨⟨⟨h1,h2⟩,h3⟩,h4⟩,h5⟩:=h;have hx:¬ (b.x-a.x=0∧b.y-a.y=0):=fun⟨e1,e2⟩=>hab (by cases a;cases b;simp only[V2.mk.injEq];exact⟨by grind,by grind⟩)
 have n:=wv (b.x-a.x) (b.y-a.y) (c.x-a.x) (c.y-a.y) (d.x-a.x) (d.y-a.y) hx
  (fun e=>by have:=Gt a b c h2 (by unfold Xp V2.sub;grind);unfold Q8 V2.sub at this;grind)
  (fun e=>by have:=Gt a b d h3 (by unfold Xp V2.sub;grind);unfold Q8 V2.sub at this;grind)
  (fun e=>by have:=Gt c d a h4 (by unfold Xp V2.sub;grind);unfold Q8 V2.sub at this;grind)
  (fun e=>by have:=Gt c d b h5 (by unfold Xp V2.sub;grind);unfold Q8 V2.sub at this;grind)
  (by
   rintro⟨g1,g2⟩;unfold Br JX at h1;rw[Bool.and_eq_false_iff,decide_eq_false_iff_not,decide_eq_false_iff_not]at h1;rcases h1 with h1 |h1
   ·have h1:=Wu _ _ h1
    unfold Xp V2.sub at h1;grind
   ·have h1:=Wu _ _ h1
    unfold Xp V2.sub at h1;grind)
 intro hm;rcases n with n |n |n
 ·have:=hm 0 (by omega)
  rw[Da _ _ _ _ _ ?_]at this
  ·exact absurd this (by decide)
  ·unfold DT Q8 V2.turned V2.sub
   rcases CS n with⟨g1,g2⟩ | ⟨g1,g2⟩
   ·left;grind
   ·right;grind
 ·have:=hm 1 (by omega)
  rw[Da _ _ _ _ _ ?_]at this
  ·exact absurd this (by decide)
  ·unfold DT Q8 V2.turned V2.sub
   rcases CS n with⟨g1,g2⟩ | ⟨g1,g2⟩
   ·right;grind
   ·left;grind
 ·have:=hm 2 (by omega)
  rw[Da _ _ _ _ _ ?_]at this
  ·exact absurd this (by decide)
  ·unfold DT Q8 V2.sub
   have hn:=IJ hx;rcases n with⟨g1,g2⟩ | ⟨g1,g2⟩
   ·left;grind
   ·right;grind
theorem Ur (a b c d:V2):Zx a b c d=Zx c d a b:=by
 unfold Zx;have:Br a b c d=Br c d a b:=by unfold Br;rw[Bool.and_comm]
 rw[this];cases Br c d a b <;> cases NK a b c <;> cases NK a b d <;> cases NK c d a <;> cases NK c d b <;> rfl
theorem IH {a b c:V2}(h:¬JX a b c=0):a≠b:=by
 rintro rfl;refine h ?_;unfold JX;have:Xp (a.sub a) (c.sub a)=0:=by unfold Xp V2.sub;grind
 rw[this];rfl
theorem js (L:List V2)(h:Bk L):ZV L:=by
 obtain⟨h1,h2,h3⟩:=h;refine⟨h1,fun i hi=>⟨(h2 i hi).1,fun k hk hb=>?_⟩,h3⟩;obtain⟨b1,b2,b3⟩:=hb;have hne:∀j,j<L.length→atF L j≠atF L (j+1):=fun j hj=>IH (h2 j hj).1
 rcases Nat.lt_or_ge k i with hki |hki
 ·have e:(k+L.length-i)%L.length=k+L.length-i:=Nat.mod_eq_of_lt (by omega)
  rw[e]at b1 b2;have hp:=(h2 k hk).2 i (by omega) hi;have hm:(i+1)%L.length≠k:=by
   rcases Nat.lt_or_ge (i+1) L.length with g |g
   ·rw[Nat.mod_eq_of_lt g];omega
   ·rw[show i+1=L.length by omega,Nat.mod_self];omega
  have hf:Zx (atF L k) (atF L (k+1)) (atF L i) (atF L (i+1))=false:=by
   rw[←Bool.not_eq_true];exact fun g=>hp ⟨hm,g⟩
  rw[Ur]at hf;exact NF _ _ _ _ (hne i hi) hf b3
 ·have e:(k+L.length-i)%L.length=k-i:=by
   rw[show k+L.length-i=(k-i)+L.length by omega,Nat.add_mod_right,Nat.mod_eq_of_lt (by omega)]
  rw[e]at b1 b2;have hp:=(h2 i hi).2 k (by omega) hk;have hm:(k+1)%L.length≠i:=by
   rcases Nat.lt_or_ge (k+1) L.length with g |g
   ·rw[Nat.mod_eq_of_lt g];omega
   ·rw[show k+1=L.length by omega,Nat.mod_self];omega
  have hf:Zx (atF L i) (atF L (i+1)) (atF L k) (atF L (k+1))=false:=by
   rw[←Bool.not_eq_true];exact fun g=>hp ⟨hm,g⟩
  exact NF _ _ _ _ (hne i hi) hf b3
theorem Gy (L:List V2):ZV L↔Bk L:=⟨jz L,js L⟩
end
end Go.Ab.N
